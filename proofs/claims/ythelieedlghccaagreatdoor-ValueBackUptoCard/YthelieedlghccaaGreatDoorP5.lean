/- Printed by program: Go functions as Lean programs, each tied to its code. No condition. -/
import Derived.Test.YthelieedlghccaaGreatDoorP0
import Derived.Test.YthelieedlghccaaGreatDoorP1
import Derived.Test.YthelieedlghccaaGreatDoorP2
import Derived.Test.YthelieedlghccaaGreatDoorP3
import Derived.Test.YthelieedlghccaaGreatDoorP4
set_option linter.unusedVariables false
set_option linter.unusedSimpArgs false
namespace Gx
open Go
set_option linter.unusedVariables false
set_option maxRecDepth 100000
noncomputable def ro172_9 : Array Oper := opsOf Go.Proofs.Tryz.f172 9
def tE172_9 : List (List Nat) := [[], [0], [1], [2], [], [], [5], [6], [7], [8], [3, 4, 9], [10], [11], [12], [12], [13, 11, 0, 1, 2, 3, 4, 5, 6, 7, 8, 9, 10, 11, 12, 13], [14, 15, 0, 1, 2, 3, 4, 5, 6, 7, 8, 9, 10, 11, 12, 13, 14, 15]]
def tC172_9 : List (List Nat) := [[], [0], [1], [2], [], [], [5], [6], [7], [8], [3, 4, 9], [10], [11], [12], [12], [13], [14]]
def tW172_9 : List (List Nat) := [[], [0], [0, 1], [0, 1, 2], [], [], [5], [5, 6], [5, 6, 7], [5, 6, 7, 8], [0, 1, 2, 3, 4, 5, 6, 7, 8, 9], [0, 1, 2, 3, 4, 5, 6, 7, 8, 9, 10], [0, 1, 2, 3, 4, 5, 6, 7, 8, 9, 10, 11], [0, 1, 2, 3, 4, 5, 6, 7, 8, 9, 10, 11, 12], [0, 1, 2, 3, 4, 5, 6, 7, 8, 9, 10, 11, 12], [0, 1, 2, 3, 4, 5, 6, 7, 8, 9, 10, 11, 12, 13], [0, 1, 2, 3, 4, 5, 6, 7, 8, 9, 10, 11, 12, 13, 14, 15]]
theorem tb172_9 : tabAt Go.Proofs.Tryz.f172 9 tE172_9 tC172_9 tW172_9 = true := by kernel_rfl
theorem tb172_9m : tabMB 17 tE172_9 tC172_9 tW172_9 [0, 1, 2, 4, 0, 0, 32, 64, 128, 256, 536, 1024, 2048, 4096, 4096, 16383, 65535] [0, 1, 2, 4, 0, 0, 32, 64, 128, 256, 536, 1024, 2048, 4096, 4096, 8192, 16384] [0, 1, 3, 7, 0, 0, 32, 96, 224, 480, 1023, 2047, 4095, 8191, 8191, 16383, 65535] = true := by kernel_rfl
def value_reader_number_j3 (self1 : (Int) → M (Value ⊕ (Int))) (c0_29 : Option Addr) (c5_31 : Int) (c6_32 : Int) (c7_33 : Int) : M (Value ⊕ (Int)) := do
  M.ite (c7_33 != 0) (do
    M.pure (.inr c5_31)
    ) (do
    let x69_38 ← nilP c0_29
    let x71_39 ← ldI .i64 ((x69_38).add 1)
    let x73_40 ← nilP c0_29
    stV ((x73_40).add 1) (.int .i64 (IntKind.wrap .i64 (x71_39 + 1)))
    self1 c6_32
    )
def value_reader_number_l1 (c0_15 : Option Addr) (c3_16 : Int) (self1 : (Int) → M (Value ⊕ (Int))) : (Int) → M (Value ⊕ (Int)) := fun s => match s with
  | x5_14 => do
    let x43_20 ← value_reader_here c0_15
    let x44_21 ← value_digit x43_20
    M.ite x44_21 (do
      let x47_23 ← nilP c0_15
      let x52_24 ← nilP c0_15
      let x49_25 ← ldS ((x47_23).add 0)
      let x54_26 ← ldI .i64 ((x52_24).add 1)
      let x56_27 ← slS x49_25 c3_16 (IntKind.wrap .i64 (x54_26 + 1))
      let x57_28 ← callF Go.Proofs.Tryz.prog fn_num_Parse #[.string x56_27] (fun r : Int × Int => .tuple #[.int .i64 r.1, .int .i64 r.2])
      M.ite (x57_28.2 == 7) (do
        thr (value_reader_fail c0_15) fun x63_43 => do
          value_reader_number_j3 self1 c0_15 x5_14 x57_28.1 x57_28.2
        ) (do
        value_reader_number_j3 self1 c0_15 x5_14 x57_28.1 x57_28.2
        )
      ) (do
      M.pure (.inr x5_14)
      )
def value_reader_number_j2 (c0_10 : Option Addr) (c3_11 : Int) : M (Value ⊕ (Int)) := do
  M.loop (value_reader_number_l1 c0_10 c3_11) 0
def value_reader_number_j1 (c0_5 : Option Addr) (c3_6 : Int) : M (Value ⊕ (Int)) := do
  let x23_8 ← nilP c0_5
  let x25_9 ← ldI .i64 ((x23_8).add 1)
  let x29_46 ← value_reader_here c0_5
  let x30_47 ← value_digit x29_46
  let x39_48 ← M.ite (!x30_47) (do
    M.pure true
    ) (do
    let x38_49 ← M.ite (decide (x25_9 > c3_6)) (do
      let x36_50 ← value_reader_here c0_5
      M.pure (x36_50 == 48)
      ) (do
      M.pure false
      )
    M.pure x38_49
    )
  M.ite x39_48 (do
    thr (value_reader_fail c0_5) fun x41_51 => do
      value_reader_number_j2 c0_5 c3_6
    ) (do
    value_reader_number_j2 c0_5 c3_6
    )
def value_reader_number (x0 : Option Addr) : M (Value ⊕ (Int)) := do
  let x9_3 ← nilP x0
  let x11_4 ← ldI .i64 ((x9_3).add 1)
  let x13_53 ← value_reader_here x0
  M.ite (x13_53 == 45) (do
    let x16_54 ← nilP x0
    let x18_55 ← ldI .i64 ((x16_54).add 1)
    let x20_56 ← nilP x0
    stV ((x20_56).add 1) (.int .i64 (IntKind.wrap .i64 (x18_55 + 1)))
    value_reader_number_j1 x0 x11_4
    ) (do
    value_reader_number_j1 x0 x11_4
    )
theorem S_value_reader_number (x0 : Option Addr) : SoundX Go.Proofs.Tryz.prog 172 #[.pointer x0] (fun (r : Int) => .int .i64 r) (value_reader_number x0) := by
  refine sound_ofX [(0, .pointer x0)] Go.Proofs.Tryz.func172 rfl rfl (Nat.le_of_ble_eq_true rfl) (args_of ⟨rfl, trivial⟩) (fun w0 w Q R X a hret hthr hE hR H => ?_)
  unfold value_reader_number at H
  refine w_seq (fun K hK_1 => ?_)
  refine t_region ?_
  refine t_val (v := .int .i64 0) rfl rfl hE rfl (r_assign hE rfl) (fun a hE => ?_)
  refine t_nil ?_
  refine hK_1 _ _ ?_
  refine w_seq (fun K hK_2 => ?_)
  refine t_region ?_
  refine t_val (v := .pointer x0) rfl rfl hE rfl (r_move hE rfl) (fun a hE => ?_)
  obtain ⟨x9_3, qx9_3, H⟩ := H
  refine t_val (v := .pointer (some x9_3)) rfl rfl hE rfl (r_nilCheck hE (hx_eq rfl (congrArg Value.pointer qx9_3))) (fun a hE => ?_)
  refine t_val (v := .pointer (some ((x9_3).add 1))) rfl rfl hE rfl (r_fieldAddr hE rfl fd146_1) (fun a hE => ?_)
  obtain ⟨x11_4, qx11_4, H⟩ := H
  refine t_val (v := .int .i64 x11_4) rfl rfl hE rfl (r_load hE rfl sc3 qx11_4) (fun a hE => ?_)
  refine t_val (v := .int .i64 x11_4) rfl rfl hE rfl (r_assign hE rfl) (fun a hE => ?_)
  refine t_nil ?_
  refine hK_2 _ _ ?_
  refine w_seq_join (fun a w => Env (⟨76, []⟩ : Frm) a [(0, .pointer x0), (3, .int .i64 x11_4)] ∧ Rest w0 w ∧ (value_reader_number_j1 x0 x11_4).wp w.heap Q) ?_ ?_
  · rintro a w ⟨hE, hR, H⟩
    unfold value_reader_number_j1 at H
    refine w_seq (fun K hK_7 => ?_)
    refine t_region ?_
    refine t_val (v := .pointer x0) rfl rfl hE rfl (r_move hE rfl) (fun a hE => ?_)
    obtain ⟨x23_8, qx23_8, H⟩ := H
    refine t_val (v := .pointer (some x23_8)) rfl rfl hE rfl (r_nilCheck hE (hx_eq rfl (congrArg Value.pointer qx23_8))) (fun a hE => ?_)
    refine t_val (v := .pointer (some ((x23_8).add 1))) rfl rfl hE rfl (r_fieldAddr hE rfl fd146_1) (fun a hE => ?_)
    obtain ⟨x25_9, qx25_9, H⟩ := H
    refine t_val (v := .int .i64 x25_9) rfl rfl hE rfl (r_load hE rfl sc3 qx25_9) (fun a hE => ?_)
    refine t_val (v := .int .i64 x11_4) rfl rfl hE rfl (r_move hE rfl) (fun a hE => ?_)
    refine t_val (v := .bool (decide (x25_9 > x11_4))) rfl rfl hE rfl (r_bin hE rfl rfl g_int b_gtr) (fun a hE => ?_)
    refine t_val (v := .bool (decide (x25_9 > x11_4))) rfl rfl hE rfl (r_assign hE rfl) (fun a hE => ?_)
    refine t_nil ?_
    refine hK_7 _ _ ?_
    refine w_seq_join (fun a w => Env (⟨76, []⟩ : Frm) a [(0, .pointer x0), (3, .int .i64 x11_4)] ∧ Rest w0 w ∧ (value_reader_number_j2 x0 x11_4).wp w.heap Q) ?_ ?_
    · rintro a w ⟨hE, hR, H⟩
      unfold value_reader_number_j2 at H
      refine w_seq (fun K hK_12 => ?_)
      refine t_region ?_
      refine t_val (v := .int .i64 0) rfl rfl hE rfl (r_assign hE rfl) (fun a hE => ?_)
      refine t_nil ?_
      refine hK_12 _ _ ?_
      refine w_seq (fun K hK_13 => ?_)
      refine w_block ?_
      refine l_loop (fun (s : Int) => (⟨76, []⟩ : Frm)) (fun (s : Int) => [(0, .pointer x0), (3, .int .i64 x11_4), (5, .int .i64 s)]) H (hE.cut (.cons rfl (.cons rfl (.cons rfl Subs.nil)))) hR (fun Y self1 hY_17 x5_14 a w hE hR H => ?_)
      replace hE : Env (⟨76, []⟩ : Frm) a [(0, .pointer x0), (3, .int .i64 x11_4), (5, .int .i64 x5_14)] := hE
      replace H : (value_reader_number_l1 x0 x11_4 self1 x5_14).wp w.heap Q := H
      unfold value_reader_number_l1 at H
      refine w_seq (fun K hK_18 => ?_)
      refine w_seq (fun K hK_19 => ?_)
      refine t_region ?_
      refine t_val (v := .pointer x0) rfl rfl hE rfl (r_move hE rfl) (fun a hE => ?_)
      refine t_call hE hR cl_value_reader_here rfl (S_value_reader_here x0) (M.unbind H) (fun x43_20 a w ea hR H => ?_)
      have hE := Env.put_some hE rfl ea; clear ea
      refine t_call hE hR cl_value_digit rfl (S_value_digit x43_20) (M.unbind H) (fun x44_21 a w ea hR H => ?_)
      have hE := Env.put_some hE rfl ea; clear ea
      refine t_nil ?_
      refine hK_19 _ _ ?_
      refine w_cond x44_21 hE rfl (fun hb => ?_) (fun hb => ?_)
      · replace H := M.ite_t hb H
        refine w_skip ?_
        refine hK_18 _ _ ?_
        refine w_block ?_
        refine w_seq (fun K hK_22 => ?_)
        obtain ⟨x47_23, qx47_23, H⟩ := H
        obtain ⟨x52_24, qx52_24, H⟩ := H
        obtain ⟨x49_25, qx49_25, H⟩ := H
        obtain ⟨x54_26, qx54_26, H⟩ := H
        obtain ⟨x56_27, qx56_27, H⟩ := H
        refine reg_eq (rops := ro172_9) (by kernel_rfl) ?_
        have hT : Tab ro172_9 _ _ _ := tab_of tb172_9 rfl (by kernel_rfl)
        have hM := TabM.of tb172_9m
        refine d_start (m := 17) (fun w : World => (fun h : Heap => (hcell h ((x47_23).add 0) = some (.string x49_25)) ∧ (hcell h ((x52_24).add 1) = some (.int .i64 x54_26))) w.heap) [10, 11, 12, 13, 14, 15, 16] (unb 17 0) mo hR (by kernel_rfl) (by kernel_rfl) (fun w' e => by rw [e]; exact ⟨qx49_25, qx54_26⟩) (fun w hh hR hs => ?_)
        replace H := M.at hh H; clear hh
        refine d_pureg (i := 0) (v := .pointer x0) (unb 17 1) rfl rfl hT (anyM hM (by kernel_rfl)) hE rfl (wanted_none rfl) (fun w => r_move hE rfl) (fun a hE => ?_)
        refine d_pureg (i := 1) (v := .pointer (some x47_23)) (unb 17 3) rfl rfl hT (anyM hM (by kernel_rfl)) hE rfl (wanted_none rfl) (fun w => r_nilCheck hE (hx_eq rfl (congrArg Value.pointer qx47_23))) (fun a hE => ?_)
        refine d_pureg (i := 2) (v := .pointer (some ((x47_23).add 0))) (unb 17 7) rfl rfl hT (anyM hM (by kernel_rfl)) hE rfl (wanted_none rfl) (fun w => r_fieldAddr hE rfl fd146_0) (fun a hE => ?_)
        refine d_pureg (i := 4) (v := .int .i64 x11_4) (unb 17 23) rfl rfl hT (anyM hM (by kernel_rfl)) hE rfl (wanted_none rfl) (fun w => r_move hE rfl) (fun a hE => ?_)
        refine d_pureg (i := 5) (v := .pointer x0) (unb 17 55) rfl rfl hT (anyM hM (by kernel_rfl)) hE rfl (wanted_none rfl) (fun w => r_move hE rfl) (fun a hE => ?_)
        refine d_pureg (i := 6) (v := .pointer (some x52_24)) (unb 17 119) rfl rfl hT (anyM hM (by kernel_rfl)) hE rfl (wanted_none rfl) (fun w => r_nilCheck hE (hx_eq rfl (congrArg Value.pointer qx52_24))) (fun a hE => ?_)
        refine d_pureg (i := 7) (v := .pointer (some ((x52_24).add 1))) (unb 17 247) rfl rfl hT (anyM hM (by kernel_rfl)) hE rfl (wanted_none rfl) (fun w => r_fieldAddr hE rfl fd146_1) (fun a hE => ?_)
        refine d_read (i := 3) (v := .string x49_25) (unb 17 255) rfl rfl hT (takeM hM (by kernel_rfl)) hE rfl (wanted_none rfl) hs (fun w s => r_load hE rfl sc9 s.1) (fun a hE => ?_)
        refine d_read (i := 8) (v := .int .i64 x54_26) (unb 17 511) rfl rfl hT (takeM hM (by kernel_rfl)) hE rfl (wanted_none rfl) hs (fun w s => r_load hE rfl sc3 s.2) (fun a hE => ?_)
        refine d_pureg (i := 9) (v := .int .i64 (IntKind.wrap .i64 (x54_26 + 1))) (unb 17 1023) rfl rfl hT (anyM hM (by kernel_rfl)) hE rfl (wanted_none rfl) (fun w => r_bin hE rfl rfl g_int b_add) (fun a hE => ?_)
        refine d_pureg (i := 10) (v := .string x56_27) (unb 17 2047) rfl rfl hT (anyM hM (by kernel_rfl)) hE rfl (wanted_none rfl) (fun w => r_sliceS_lh hE rfl rfl rfl un9 qx56_27) (fun a hE => ?_)
        refine d_calll (i := 11) (unb 17 4095) rfl rfl rfl hT (oneM hM (by kernel_rfl)) rfl hE hR (wanted_none rfl) cl_num_Parse rfl (sound_callF) (M.unbind H) (fun x57_28 a w ea hR H => ?_)
        have hE := Env.put_some hE rfl ea; clear ea
        refine d_pureg (i := 12) (v := .tuple #[.int .i64 x57_28.1, .int .i64 x57_28.2]) (unb 17 8191) rfl rfl hT (anyM hM (by kernel_rfl)) hE rfl (wanted_none rfl) (fun w => r_move hE rfl) (fun a hE => ?_)
        refine d_pureg (i := 13) (v := .int .i64 x57_28.1) (unb 17 16383) rfl rfl hT (anyM hM (by kernel_rfl)) hE rfl (wanted_none rfl) (fun w => r_extract hE rfl rfl) (fun a hE => ?_)
        refine d_pureg (i := 14) (v := .int .i64 x57_28.2) (unb 17 32767) rfl rfl hT (anyM hM (by kernel_rfl)) hE rfl (wanted_none rfl) (fun w => r_extract hE rfl rfl) (fun a hE => ?_)
        refine d_pureg (i := 15) (v := .int .i64 x57_28.1) (unb 17 65535) rfl rfl hT (anyM hM (by kernel_rfl)) hE rfl (wanted_none rfl) (fun w => r_assign hE rfl) (fun a hE => ?_)
        refine d_pureg (i := 16) (v := .int .i64 x57_28.2) (unb 17 131071) rfl rfl hT (anyM hM (by kernel_rfl)) hE rfl (wanted_none rfl) (fun w => r_assign hE rfl) (fun a hE => ?_)
        refine d_done hT (doneM hM (by kernel_rfl)) ?_
        refine hK_22 _ _ ?_
        refine w_seq_join (fun a w => Env (⟨76, []⟩ : Frm) a [(0, .pointer x0), (3, .int .i64 x11_4), (5, .int .i64 x5_14), (6, .int .i64 x57_28.1), (7, .int .i64 x57_28.2)] ∧ Rest w0 w ∧ (value_reader_number_j3 self1 x0 x5_14 x57_28.1 x57_28.2).wp w.heap Q) ?_ ?_
        · rintro a w ⟨hE, hR, H⟩
          unfold value_reader_number_j3 at H
          refine w_seq (fun K hK_34 => ?_)
          refine w_seq (fun K hK_35 => ?_)
          refine t_region ?_
          refine t_val (v := .int .i64 x57_28.2) rfl rfl hE rfl (r_move hE rfl) (fun a hE => ?_)
          refine t_val (v := .bool (x57_28.2 != 0)) rfl rfl hE rfl (r_bin hE rfl rfl g_int b_neq) (fun a hE => ?_)
          refine t_nil ?_
          refine hK_35 _ _ ?_
          refine w_cond (x57_28.2 != 0) hE rfl (fun hb => ?_) (fun hb => ?_)
          · replace H := M.ite_t hb H
            refine w_seq (fun K hK_36 => ?_)
            refine t_region ?_
            refine t_val (v := .int .i64 x5_14) rfl rfl hE rfl (r_move hE rfl) (fun a hE => ?_)
            refine t_val (v := .int .i64 x5_14) rfl rfl hE rfl (r_assign hE rfl) (fun a hE => ?_)
            refine t_nil ?_
            refine hK_36 _ _ ?_
            refine w_ret ?_
            exact hret _ _ _ x5_14 _ hE hR (res_run hE rfl (RV.tmp rfl RV.nil)) rfl H
          · replace H := M.ite_f hb H
            refine w_skip ?_
            refine hK_34 _ _ ?_
            refine w_seq (fun K hK_37 => ?_)
            refine t_region ?_
            refine t_val (v := .int .i64 x57_28.1) rfl rfl hE rfl (r_move hE rfl) (fun a hE => ?_)
            refine t_val (v := .int .i64 x57_28.1) rfl rfl hE rfl (r_assign hE rfl) (fun a hE => ?_)
            refine t_nil ?_
            refine hK_37 _ _ ?_
            refine t_region ?_
            refine t_val (v := .pointer x0) rfl rfl hE rfl (r_move hE rfl) (fun a hE => ?_)
            obtain ⟨x69_38, qx69_38, H⟩ := H
            refine t_val (v := .pointer (some x69_38)) rfl rfl hE rfl (r_nilCheck hE (hx_eq rfl (congrArg Value.pointer qx69_38))) (fun a hE => ?_)
            refine t_val (v := .pointer (some ((x69_38).add 1))) rfl rfl hE rfl (r_fieldAddr hE rfl fd146_1) (fun a hE => ?_)
            obtain ⟨x71_39, qx71_39, H⟩ := H
            refine t_val (v := .int .i64 x71_39) rfl rfl hE rfl (r_load hE rfl sc3 qx71_39) (fun a hE => ?_)
            refine t_val (v := .int .i64 (IntKind.wrap .i64 (x71_39 + 1))) rfl rfl hE rfl (r_bin hE rfl rfl g_int b_add) (fun a hE => ?_)
            obtain ⟨x73_40, qx73_40, H⟩ := H
            refine t_val (v := .pointer (some x73_40)) rfl rfl hE rfl (r_nilCheck hE (hx_eq rfl (congrArg Value.pointer qx73_40))) (fun a hE => ?_)
            refine t_val (v := .pointer (some ((x73_40).add 1))) rfl rfl hE rfl (r_fieldAddr hE rfl fd146_1) (fun a hE => ?_)
            obtain ⟨u_41, qu_41, H⟩ := H
            refine t_sth rfl rfl hE hR (r_store hE rfl rfl sz3 qu_41) (fun a w hE hR hh => ?_)
            replace H := M.at hh H; clear hh
            refine t_nil ?_
            exact hY_17 x57_28.1 _ _ (hE.cut (.cons rfl (.cons rfl (.cons rfl Subs.nil)))) hR H
        · skip
          refine w_seq (fun K hK_42 => ?_)
          refine t_region ?_
          refine t_val (v := .int .i64 x57_28.2) rfl rfl hE rfl (r_move hE rfl) (fun a hE => ?_)
          refine t_val (v := .bool (x57_28.2 == 7)) rfl rfl hE rfl (r_bin hE rfl rfl g_int b_eql) (fun a hE => ?_)
          refine t_nil ?_
          refine hK_42 _ _ ?_
          refine w_cond (x57_28.2 == 7) hE rfl (fun hb => ?_) (fun hb => ?_)
          · replace H := M.ite_t hb H
            refine t_region ?_
            refine t_val (v := .pointer x0) rfl rfl hE rfl (r_move hE rfl) (fun a hE => ?_)
            refine t_callX hE hR cl_value_reader_fail rfl (S_value_reader_fail x0) H (fun _ _ hR HQ => Xu.ne rfl (Xu.ne rfl (hthr _ _ hR HQ))) (fun x63_43 a w ea hR H => ?_)
            have hE := Env.put_some hE rfl ea; clear ea
            refine t_nil ?_
            exact ⟨hE.cut (.cons rfl (.cons rfl (.cons rfl (.cons rfl (.cons rfl Subs.nil))))), hR, H⟩
          · replace H := M.ite_f hb H
            refine w_skip ?_
            exact ⟨hE.cut (.cons rfl (.cons rfl (.cons rfl (.cons rfl (.cons rfl Subs.nil))))), hR, H⟩
      · replace H := M.ite_f hb H
        refine w_exit ?_
        refine Xu.same ?_
        refine hK_13 _ _ ?_
        refine w_seq (fun K hK_44 => ?_)
        refine t_region ?_
        refine t_val (v := .int .i64 x5_14) rfl rfl hE rfl (r_move hE rfl) (fun a hE => ?_)
        refine t_val (v := .int .i64 x5_14) rfl rfl hE rfl (r_assign hE rfl) (fun a hE => ?_)
        refine t_nil ?_
        refine hK_44 _ _ ?_
        refine w_ret ?_
        exact hret _ _ _ x5_14 _ hE hR (res_run hE rfl (RV.tmp rfl RV.nil)) rfl H
    · skip
      refine w_seq (fun K hK_45 => ?_)
      refine t_region ?_
      refine t_val (v := .pointer x0) rfl rfl hE rfl (r_move hE rfl) (fun a hE => ?_)
      refine t_call hE hR cl_value_reader_here rfl (S_value_reader_here x0) (M.unbind H) (fun x29_46 a w ea hR H => ?_)
      have hE := Env.put_some hE rfl ea; clear ea
      refine t_call hE hR cl_value_digit rfl (S_value_digit x29_46) (M.unbind H) (fun x30_47 a w ea hR H => ?_)
      have hE := Env.put_some hE rfl ea; clear ea
      refine t_val (v := .bool (!x30_47)) rfl rfl hE rfl (r_un hE rfl u_not) (fun a hE => ?_)
      refine t_val (v := .bool (!x30_47)) rfl rfl hE rfl (r_move hE rfl) (fun a hE => ?_)
      refine t_grp (n := (⟨76, []⟩ : Frm)) (w0 := w0) 7 (fun x39_48 : Bool => [(0, .pointer x0), (3, .int .i64 x11_4), (39, .bool x39_48)]) (M.unbind H) (fun Kr hKr H => ?_) ?_
      · rcases bool_em (!x30_47) with hb | hb
        · replace H := M.ite_t hb H
          have hE := hE.reb 32 (!x30_47) true hb rfl
          refine t_off rfl hE rfl rfl rfl (fun a ea => ?_)
          have hE := Env.put_some hE rfl ea; clear ea
          refine t_off rfl hE rfl rfl rfl (fun a ea => ?_)
          have hE := Env.put_some hE rfl ea; clear ea
          refine t_off' rfl hE rfl rfl (fun b hb => by cases hb) (fun a ea => ?_)
          have hE := Env.put_some hE rfl ea; clear ea
          refine t_off' rfl hE rfl rfl (fun b hb => by cases hb) (fun a ea => ?_)
          have hE := Env.put_some hE rfl ea; clear ea
          refine t_off' rfl hE rfl rfl (fun b hb => by cases hb) (fun a ea => ?_)
          have hE := Env.put_some hE rfl ea; clear ea
          refine t_off rfl hE rfl rfl rfl (fun a ea => ?_)
          have hE := Env.put_some hE rfl ea; clear ea
          refine t_val rfl rfl hE rfl (r_pick_t hE rfl rfl) (fun a hE => ?_)
          refine t_nil ?_
          exact hKr _ _ _ (hE.cut (.cons rfl (.cons rfl (.cons rfl Subs.nil)))) hR H
        · replace H := M.ite_f hb H
          have hE := hE.reb 32 (!x30_47) false hb rfl
          refine t_on rfl hE rfl rfl rfl ?_
          refine t_val (v := .bool (decide (x25_9 > x11_4))) rfl rfl hE rfl (r_move hE rfl) (fun a hE => ?_)
          refine t_on rfl hE rfl rfl rfl ?_
          refine t_val (v := .bool (decide (x25_9 > x11_4))) rfl rfl hE rfl (r_move hE rfl) (fun a hE => ?_)
          refine t_grp (n := (⟨76, []⟩ : Frm)) (w0 := w0) 4 (fun x38_49 : Bool => [(0, .pointer x0), (3, .int .i64 x11_4), (32, .bool false), (38, .bool x38_49)]) (M.unbind H) (fun Kr hKr H => ?_) ?_
          · rcases bool_em (decide (x25_9 > x11_4)) with hb | hb
            · replace H := M.ite_t hb H
              have hE := hE.reb 34 (decide (x25_9 > x11_4)) true hb rfl
              refine t_on rfl hE rfl rfl rfl ?_
              refine t_val (v := .pointer x0) rfl rfl hE rfl (r_move hE rfl) (fun a hE => ?_)
              refine t_on rfl hE rfl rfl rfl ?_
              refine t_call hE hR cl_value_reader_here rfl (S_value_reader_here x0) (M.unbind H) (fun x36_50 a w ea hR H => ?_)
              have hE := Env.put_some hE rfl ea; clear ea
              refine t_on rfl hE rfl rfl rfl ?_
              refine t_val (v := .bool (x36_50 == 48)) rfl rfl hE rfl (r_bin hE rfl rfl g_int b_eql) (fun a hE => ?_)
              refine t_on rfl hE rfl rfl rfl ?_
              refine t_val rfl rfl hE rfl (r_pick_t hE rfl rfl) (fun a hE => ?_)
              refine t_nil ?_
              exact hKr _ _ _ (hE.cut (.cons rfl (.cons rfl (.cons rfl (.cons rfl Subs.nil))))) hR H
            · replace H := M.ite_f hb H
              have hE := hE.reb 34 (decide (x25_9 > x11_4)) false hb rfl
              refine t_off rfl hE rfl rfl rfl (fun a ea => ?_)
              have hE := Env.put_some hE rfl ea; clear ea
              refine t_off rfl hE rfl rfl rfl (fun a ea => ?_)
              have hE := Env.put_some hE rfl ea; clear ea
              refine t_off rfl hE rfl rfl rfl (fun a ea => ?_)
              have hE := Env.put_some hE rfl ea; clear ea
              refine t_on rfl hE rfl rfl rfl ?_
              refine t_val rfl rfl hE rfl (r_pick_f hE rfl rfl) (fun a hE => ?_)
              refine t_nil ?_
              exact hKr _ _ _ (hE.cut (.cons rfl (.cons rfl (.cons rfl (.cons rfl Subs.nil))))) hR H
          · intro x38_49 a w hE hR H
            refine t_val rfl rfl hE rfl (r_pick_f hE rfl rfl) (fun a hE => ?_)
            refine t_nil ?_
            exact hKr _ _ _ (hE.cut (.cons rfl (.cons rfl (.cons rfl Subs.nil)))) hR H
      · intro x39_48 a w hE hR H
        refine t_nil ?_
        refine hK_45 _ _ ?_
        refine w_cond x39_48 hE rfl (fun hb => ?_) (fun hb => ?_)
        · replace H := M.ite_t hb H
          refine t_region ?_
          refine t_val (v := .pointer x0) rfl rfl hE rfl (r_move hE rfl) (fun a hE => ?_)
          refine t_callX hE hR cl_value_reader_fail rfl (S_value_reader_fail x0) H (fun _ _ hR HQ => hthr _ _ hR HQ) (fun x41_51 a w ea hR H => ?_)
          have hE := Env.put_some hE rfl ea; clear ea
          refine t_nil ?_
          exact ⟨hE.cut (.cons rfl (.cons rfl Subs.nil)), hR, H⟩
        · replace H := M.ite_f hb H
          refine w_skip ?_
          exact ⟨hE.cut (.cons rfl (.cons rfl Subs.nil)), hR, H⟩
  · skip
    refine w_seq (fun K hK_52 => ?_)
    refine t_region ?_
    refine t_val (v := .pointer x0) rfl rfl hE rfl (r_move hE rfl) (fun a hE => ?_)
    refine t_call hE hR cl_value_reader_here rfl (S_value_reader_here x0) (M.unbind H) (fun x13_53 a w ea hR H => ?_)
    have hE := Env.put_some hE rfl ea; clear ea
    refine t_val (v := .bool (x13_53 == 45)) rfl rfl hE rfl (r_bin hE rfl rfl g_int b_eql) (fun a hE => ?_)
    refine t_nil ?_
    refine hK_52 _ _ ?_
    refine w_cond (x13_53 == 45) hE rfl (fun hb => ?_) (fun hb => ?_)
    · replace H := M.ite_t hb H
      refine t_region ?_
      refine t_val (v := .pointer x0) rfl rfl hE rfl (r_move hE rfl) (fun a hE => ?_)
      obtain ⟨x16_54, qx16_54, H⟩ := H
      refine t_val (v := .pointer (some x16_54)) rfl rfl hE rfl (r_nilCheck hE (hx_eq rfl (congrArg Value.pointer qx16_54))) (fun a hE => ?_)
      refine t_val (v := .pointer (some ((x16_54).add 1))) rfl rfl hE rfl (r_fieldAddr hE rfl fd146_1) (fun a hE => ?_)
      obtain ⟨x18_55, qx18_55, H⟩ := H
      refine t_val (v := .int .i64 x18_55) rfl rfl hE rfl (r_load hE rfl sc3 qx18_55) (fun a hE => ?_)
      refine t_val (v := .int .i64 (IntKind.wrap .i64 (x18_55 + 1))) rfl rfl hE rfl (r_bin hE rfl rfl g_int b_add) (fun a hE => ?_)
      obtain ⟨x20_56, qx20_56, H⟩ := H
      refine t_val (v := .pointer (some x20_56)) rfl rfl hE rfl (r_nilCheck hE (hx_eq rfl (congrArg Value.pointer qx20_56))) (fun a hE => ?_)
      refine t_val (v := .pointer (some ((x20_56).add 1))) rfl rfl hE rfl (r_fieldAddr hE rfl fd146_1) (fun a hE => ?_)
      obtain ⟨u_57, qu_57, H⟩ := H
      refine t_sth rfl rfl hE hR (r_store hE rfl rfl sz3 qu_57) (fun a w hE hR hh => ?_)
      replace H := M.at hh H; clear hh
      refine t_nil ?_
      exact ⟨hE.cut (.cons rfl (.cons rfl Subs.nil)), hR, H⟩
    · replace H := M.ite_f hb H
      refine w_skip ?_
      exact ⟨hE.cut (.cons rfl (.cons rfl Subs.nil)), hR, H⟩

def value_reader_must_j1 (self1 : (Int) → M (Value ⊕ (Unit))) (c0_11 : Option Addr) (c7_14 : Int) : M (Value ⊕ (Unit)) := do
  let x38_15 ← nilP c0_11
  let x40_16 ← ldI .i64 ((x38_15).add 1)
  let x42_17 ← nilP c0_11
  stV ((x42_17).add 1) (.int .i64 (IntKind.wrap .i64 (x40_16 + 1)))
  self1 (IntKind.wrap .i64 (c7_14 + 1))
def value_reader_must_j2 (self1 : (Int) → M (Value ⊕ (Unit))) (c0_20 : Option Addr) (c7_23 : Int) (x34_19 : Bool) : M (Value ⊕ (Unit)) := do
  M.ite x34_19 (do
    thr (value_reader_fail c0_20) fun x36_24 => do
      value_reader_must_j1 self1 c0_20 c7_23
    ) (do
    value_reader_must_j1 self1 c0_20 c7_23
    )
noncomputable def ro174_3 : Array Oper := opsOf Go.Proofs.Tryz.f174 3
def tE174_3 : List (List Nat) := [[], [0], [1], [2], [], [4], [5], [6], [7], [3, 8], [9], [10], [11, 10], [12, 10], [13, 10], [10], [15, 10], [16, 10], [17, 10], [14, 18, 10], [10], [10], [20, 21, 10], [19, 22, 10], [10, 23]]
def tC174_3 : List (List Nat) := [[], [0], [1], [2], [], [4], [5], [6], [7], [3, 8], [9], [10], [10, 11], [10, 12], [10, 13], [10], [10, 15], [10, 16], [10, 17], [10, 14, 18], [10], [10], [10, 20, 21], [10, 19, 22], [10, 23]]
def tW174_3 : List (List Nat) := [[], [0], [0, 1], [0, 1, 2], [], [4], [4, 5], [4, 5, 6], [4, 5, 6, 7], [0, 1, 2, 3, 4, 5, 6, 7, 8], [0, 1, 2, 3, 4, 5, 6, 7, 8, 9], [0, 1, 2, 3, 4, 5, 6, 7, 8, 9, 10], [0, 1, 2, 3, 4, 5, 6, 7, 8, 9, 10, 11], [0, 1, 2, 3, 4, 5, 6, 7, 8, 9, 10, 11, 12], [0, 1, 2, 3, 4, 5, 6, 7, 8, 9, 10, 11, 12, 13], [0, 1, 2, 3, 4, 5, 6, 7, 8, 9, 10], [0, 1, 2, 3, 4, 5, 6, 7, 8, 9, 10, 15], [0, 1, 2, 3, 4, 5, 6, 7, 8, 9, 10, 15, 16], [0, 1, 2, 3, 4, 5, 6, 7, 8, 9, 10, 15, 16, 17], [0, 1, 2, 3, 4, 5, 6, 7, 8, 9, 10, 11, 12, 13, 14, 15, 16, 17, 18], [0, 1, 2, 3, 4, 5, 6, 7, 8, 9, 10], [0, 1, 2, 3, 4, 5, 6, 7, 8, 9, 10], [0, 1, 2, 3, 4, 5, 6, 7, 8, 9, 10, 20, 21], [0, 1, 2, 3, 4, 5, 6, 7, 8, 9, 10, 11, 12, 13, 14, 15, 16, 17, 18, 19, 20, 21, 22], [0, 1, 2, 3, 4, 5, 6, 7, 8, 9, 10, 11, 12, 13, 14, 15, 16, 17, 18, 19, 20, 21, 22, 23]]
theorem tb174_3 : tabAt Go.Proofs.Tryz.f174 3 tE174_3 tC174_3 tW174_3 = true := by kernel_rfl
theorem tb174_3m : tabMB 25 tE174_3 tC174_3 tW174_3 [0, 1, 2, 4, 0, 16, 32, 64, 128, 264, 512, 1024, 3072, 5120, 9216, 1024, 33792, 66560, 132096, 279552, 1024, 1024, 3146752, 4719616, 8389632] [0, 1, 2, 4, 0, 16, 32, 64, 128, 264, 512, 1024, 3072, 5120, 9216, 1024, 33792, 66560, 132096, 279552, 1024, 1024, 3146752, 4719616, 8389632] [0, 1, 3, 7, 0, 16, 48, 112, 240, 511, 1023, 2047, 4095, 8191, 16383, 2047, 34815, 100351, 231423, 524287, 2047, 2047, 3147775, 8388607, 16777215] = true := by kernel_rfl
def value_reader_must_l1 (c0_3 : Option Addr) (c1_4 : ByteArray) (c6_5 : Int) (self1 : (Int) → M (Value ⊕ (Unit))) : (Int) → M (Value ⊕ (Unit)) := fun s => match s with
  | x7_2 => do
    M.ite (decide (x7_2 < c6_5)) (do
      let x11_25 ← nilP c0_3
      let x15_26 ← nilP c0_3
      let x13_27 ← ldI .i64 ((x11_25).add 1)
      let x17_28 ← ldS ((x15_26).add 0)
      M.ite (decide (x13_27 ≥ (x17_28.size : Int))) (do
        value_reader_must_j2 self1 c0_3 x7_2 true
        ) (do
        let x22_30 ← nilP c0_3
        let x26_31 ← nilP c0_3
        let x32_32 ← ixS c1_4 x7_2
        let x24_33 ← ldS ((x22_30).add 0)
        let x28_34 ← ldI .i64 ((x26_31).add 1)
        let x29_35 ← ixS x24_33 x28_34
        value_reader_must_j2 self1 c0_3 x7_2 (x29_35 != x32_32)
        )
      ) (do
      M.pure (.inr ())
      )
def value_reader_must (x0 : Option Addr) (x1 : ByteArray) : M (Value ⊕ (Unit)) := do
  M.loop (value_reader_must_l1 x0 x1 (x1.size : Int)) 0
theorem S_value_reader_must (x0 : Option Addr) (x1 : ByteArray) : SoundX Go.Proofs.Tryz.prog 174 #[.pointer x0, .string x1] (fun (r : Unit) => .tuple #[]) (value_reader_must x0 x1) := by
  refine sound_ofX [(0, .pointer x0), (1, .string x1)] Go.Proofs.Tryz.func174 rfl rfl (Nat.le_of_ble_eq_true rfl) (args_of ⟨rfl, rfl, trivial⟩) (fun w0 w Q R X a hret hthr hE hR H => ?_)
  unfold value_reader_must at H
  refine w_seq (fun K hK_1 => ?_)
  refine t_region ?_
  refine t_val (v := .string x1) rfl rfl hE rfl (r_move hE rfl) (fun a hE => ?_)
  refine t_val (v := .int .i64 (x1.size : Int)) rfl rfl hE rfl (r_lenS hE rfl un9) (fun a hE => ?_)
  refine t_val (v := .int .i64 0) rfl rfl hE rfl (r_move hE rfl) (fun a hE => ?_)
  refine t_nil ?_
  refine hK_1 _ _ ?_
  refine w_block ?_
  refine l_loop (fun (s : Int) => (⟨45, []⟩ : Frm)) (fun (s : Int) => [(0, .pointer x0), (1, .string x1), (6, .int .i64 (x1.size : Int)), (7, .int .i64 s)]) H (hE.cut (.cons rfl (.cons rfl (.cons rfl (.cons rfl Subs.nil))))) hR (fun Y self1 hY_6 x7_2 a w hE hR H => ?_)
  replace hE : Env (⟨45, []⟩ : Frm) a [(0, .pointer x0), (1, .string x1), (6, .int .i64 (x1.size : Int)), (7, .int .i64 x7_2)] := hE
  replace H : (value_reader_must_l1 x0 x1 (x1.size : Int) self1 x7_2).wp w.heap Q := H
  unfold value_reader_must_l1 at H
  refine w_seq (fun K hK_7 => ?_)
  refine t_region ?_
  refine t_val (v := .bool (decide (x7_2 < (x1.size : Int)))) rfl rfl hE rfl (r_bin hE rfl rfl g_int b_lss) (fun a hE => ?_)
  refine t_nil ?_
  refine hK_7 _ _ ?_
  refine w_seq (fun K hK_8 => ?_)
  refine w_cond (decide (x7_2 < (x1.size : Int))) hE rfl (fun hb => ?_) (fun hb => ?_)
  · replace H := M.ite_t hb H
    refine w_skip ?_
    refine hK_8 _ _ ?_
    refine w_seq (fun K hK_9 => ?_)
    refine w_block ?_
    refine w_seq (fun K hK_10 => ?_)
    refine t_region ?_
    refine t_val (v := .int .i64 x7_2) rfl rfl hE rfl (r_move hE rfl) (fun a hE => ?_)
    refine t_val (v := .int .i64 x7_2) rfl rfl hE rfl (r_assign hE rfl) (fun a hE => ?_)
    refine t_nil ?_
    refine hK_10 _ _ ?_
    refine w_seq_join (fun a w => Env (⟨45, []⟩ : Frm) a [(0, .pointer x0), (1, .string x1), (6, .int .i64 (x1.size : Int)), (7, .int .i64 x7_2)] ∧ Rest w0 w ∧ (value_reader_must_j1 self1 x0 x7_2).wp w.heap Q) ?_ ?_
    · rintro a w ⟨hE, hR, H⟩
      unfold value_reader_must_j1 at H
      refine t_region ?_
      refine t_val (v := .pointer x0) rfl rfl hE rfl (r_move hE rfl) (fun a hE => ?_)
      obtain ⟨x38_15, qx38_15, H⟩ := H
      refine t_val (v := .pointer (some x38_15)) rfl rfl hE rfl (r_nilCheck hE (hx_eq rfl (congrArg Value.pointer qx38_15))) (fun a hE => ?_)
      refine t_val (v := .pointer (some ((x38_15).add 1))) rfl rfl hE rfl (r_fieldAddr hE rfl fd146_1) (fun a hE => ?_)
      obtain ⟨x40_16, qx40_16, H⟩ := H
      refine t_val (v := .int .i64 x40_16) rfl rfl hE rfl (r_load hE rfl sc3 qx40_16) (fun a hE => ?_)
      refine t_val (v := .int .i64 (IntKind.wrap .i64 (x40_16 + 1))) rfl rfl hE rfl (r_bin hE rfl rfl g_int b_add) (fun a hE => ?_)
      obtain ⟨x42_17, qx42_17, H⟩ := H
      refine t_val (v := .pointer (some x42_17)) rfl rfl hE rfl (r_nilCheck hE (hx_eq rfl (congrArg Value.pointer qx42_17))) (fun a hE => ?_)
      refine t_val (v := .pointer (some ((x42_17).add 1))) rfl rfl hE rfl (r_fieldAddr hE rfl fd146_1) (fun a hE => ?_)
      obtain ⟨u_18, qu_18, H⟩ := H
      refine t_sth rfl rfl hE hR (r_store hE rfl rfl sz3 qu_18) (fun a w hE hR hh => ?_)
      replace H := M.at hh H; clear hh
      refine t_nil ?_
      refine hK_9 _ _ ?_
      refine t_region ?_
      refine t_val (v := .int .i64 (IntKind.wrap .i64 (x7_2 + 1))) rfl rfl hE rfl (r_bin hE rfl rfl g_int b_add) (fun a hE => ?_)
      refine t_val (v := .int .i64 (IntKind.wrap .i64 (x7_2 + 1))) rfl rfl hE rfl (r_move hE rfl) (fun a hE => ?_)
      refine t_nil ?_
      exact hY_6 (IntKind.wrap .i64 (x7_2 + 1)) _ _ (hE.cut (.cons rfl (.cons rfl (.cons rfl (.cons rfl Subs.nil))))) hR H
    · skip
      refine w_seq_join (fun a w => ∃ (x34_19 : Bool), Env (⟨45, []⟩ : Frm) a [(0, .pointer x0), (1, .string x1), (6, .int .i64 (x1.size : Int)), (7, .int .i64 x7_2), (34, .bool x34_19)] ∧ Rest w0 w ∧ (value_reader_must_j2 self1 x0 x7_2 x34_19).wp w.heap Q) ?_ ?_
      · rintro a w ⟨x34_19, hE, hR, H⟩
        unfold value_reader_must_j2 at H
        refine w_cond x34_19 hE rfl (fun hb => ?_) (fun hb => ?_)
        · replace H := M.ite_t hb H
          refine t_region ?_
          refine t_val (v := .pointer x0) rfl rfl hE rfl (r_move hE rfl) (fun a hE => ?_)
          refine t_callX hE hR cl_value_reader_fail rfl (S_value_reader_fail x0) H (fun _ _ hR HQ => Xu.ne rfl (Xu.ne rfl (hthr _ _ hR HQ))) (fun x36_24 a w ea hR H => ?_)
          have hE := Env.put_some hE rfl ea; clear ea
          refine t_nil ?_
          exact ⟨hE.cut (.cons rfl (.cons rfl (.cons rfl (.cons rfl Subs.nil)))), hR, H⟩
        · replace H := M.ite_f hb H
          refine w_skip ?_
          exact ⟨hE.cut (.cons rfl (.cons rfl (.cons rfl (.cons rfl Subs.nil)))), hR, H⟩
      · skip
        obtain ⟨x11_25, qx11_25, H⟩ := H
        obtain ⟨x15_26, qx15_26, H⟩ := H
        obtain ⟨x13_27, qx13_27, H⟩ := H
        obtain ⟨x17_28, qx17_28, H⟩ := H
        rcases bool_em (decide (x13_27 ≥ (x17_28.size : Int))) with hb_29 | hb_29
        · replace H := M.ite_t hb_29 H
          refine reg_eq (rops := ro174_3) (by kernel_rfl) ?_
          have hT : Tab ro174_3 _ _ _ := tab_of tb174_3 rfl (by kernel_rfl)
          have hM := TabM.of tb174_3m
          refine d_start (m := 25) (fun w : World => (fun h : Heap => (hcell h ((x11_25).add 1) = some (.int .i64 x13_27)) ∧ (hcell h ((x15_26).add 0) = some (.string x17_28))) w.heap) [9, 10, 11, 12, 13, 14, 15, 16, 17, 18, 19, 20, 21, 22, 23, 24] (unb 25 0) mo hR (by kernel_rfl) (by kernel_rfl) (fun w' e => by rw [e]; exact ⟨qx13_27, qx17_28⟩) (fun w hh hR hs => ?_)
          replace H := M.at hh H; clear hh
          refine d_pureg (i := 0) (v := .pointer x0) (unb 25 1) rfl rfl hT (anyM hM (by kernel_rfl)) hE rfl (wanted_none rfl) (fun w => r_move hE rfl) (fun a hE => ?_)
          refine d_pureg (i := 1) (v := .pointer (some x11_25)) (unb 25 3) rfl rfl hT (anyM hM (by kernel_rfl)) hE rfl (wanted_none rfl) (fun w => r_nilCheck hE (hx_eq rfl (congrArg Value.pointer qx11_25))) (fun a hE => ?_)
          refine d_pureg (i := 2) (v := .pointer (some ((x11_25).add 1))) (unb 25 7) rfl rfl hT (anyM hM (by kernel_rfl)) hE rfl (wanted_none rfl) (fun w => r_fieldAddr hE rfl fd146_1) (fun a hE => ?_)
          refine d_pureg (i := 4) (v := .pointer x0) (unb 25 23) rfl rfl hT (anyM hM (by kernel_rfl)) hE rfl (wanted_none rfl) (fun w => r_move hE rfl) (fun a hE => ?_)
          refine d_pureg (i := 5) (v := .pointer (some x15_26)) (unb 25 55) rfl rfl hT (anyM hM (by kernel_rfl)) hE rfl (wanted_none rfl) (fun w => r_nilCheck hE (hx_eq rfl (congrArg Value.pointer qx15_26))) (fun a hE => ?_)
          refine d_pureg (i := 6) (v := .pointer (some ((x15_26).add 0))) (unb 25 119) rfl rfl hT (anyM hM (by kernel_rfl)) hE rfl (wanted_none rfl) (fun w => r_fieldAddr hE rfl fd146_0) (fun a hE => ?_)
          refine d_read (i := 3) (v := .int .i64 x13_27) (unb 25 127) rfl rfl hT (takeM hM (by kernel_rfl)) hE rfl (wanted_none rfl) hs (fun w s => r_load hE rfl sc3 s.1) (fun a hE => ?_)
          refine d_read (i := 7) (v := .string x17_28) (unb 25 255) rfl rfl hT (takeM hM (by kernel_rfl)) hE rfl (wanted_none rfl) hs (fun w s => r_load hE rfl sc9 s.2) (fun a hE => ?_)
          refine d_pureg (i := 8) (v := .int .i64 (x17_28.size : Int)) (unb 25 511) rfl rfl hT (anyM hM (by kernel_rfl)) hE rfl (wanted_none rfl) (fun w => r_lenS hE rfl un9) (fun a hE => ?_)
          refine d_pureg (i := 9) (v := .bool (decide (x13_27 ≥ (x17_28.size : Int)))) (unb 25 1023) rfl rfl hT (anyM hM (by kernel_rfl)) hE rfl (wanted_none rfl) (fun w => r_bin hE rfl rfl g_int b_geq) (fun a hE => ?_)
          refine d_pureg (i := 10) (v := .bool (decide (x13_27 ≥ (x17_28.size : Int)))) (unb 25 2047) rfl rfl hT (anyM hM (by kernel_rfl)) hE rfl (wanted_none rfl) (fun w => r_move hE rfl) (fun a hE => ?_)
          have hE := hE.reb 20 (decide (x13_27 ≥ (x17_28.size : Int))) true hb_29 rfl
          replace hE := hE.cut (l' := [(0, .pointer x0), (1, .string x1), (6, .int .i64 (x1.size : Int)), (7, .int .i64 x7_2), (4, .int .i64 x7_2), (20, .bool true)]) (.cons rfl (.cons rfl (.cons rfl (.cons rfl (.cons rfl (.cons rfl Subs.nil))))))
          refine d_offsM' [(11, some 21), (12, some 22), (13, some 23), (14, some 24), (15, some 25), (16, some 26), (17, some 27), (18, some 28), (19, some 29), (20, some 30), (21, some 31), (22, some 32), (23, some 33)] 1 hT hM hE (by kernel_rfl) (m' := 16777215) (by kernel_rfl) (fun a hE => ?_)
          refine d_pureg (i := 24) (v := .bool true) (unb 25 33554431) rfl rfl hT (anyM hM (by kernel_rfl)) hE rfl (wanted_none rfl) (fun w => r_pick_t hE rfl rfl) (fun a hE => ?_)
          refine d_done hT (doneM hM (by kernel_rfl)) ?_
          exact ⟨true, hE.cut (.cons rfl (.cons rfl (.cons rfl (.cons rfl (.cons rfl Subs.nil))))), hR, H⟩
        · replace H := M.ite_f hb_29 H
          obtain ⟨x22_30, qx22_30, H⟩ := H
          obtain ⟨x26_31, qx26_31, H⟩ := H
          obtain ⟨x32_32, qx32_32, H⟩ := H
          obtain ⟨x24_33, qx24_33, H⟩ := H
          obtain ⟨x28_34, qx28_34, H⟩ := H
          obtain ⟨x29_35, qx29_35, H⟩ := H
          refine reg_eq (rops := ro174_3) (by kernel_rfl) ?_
          have hT : Tab ro174_3 _ _ _ := tab_of tb174_3 rfl (by kernel_rfl)
          have hM := TabM.of tb174_3m
          refine d_start (m := 25) (fun w : World => (fun h : Heap => (hcell h ((x11_25).add 1) = some (.int .i64 x13_27)) ∧ (hcell h ((x15_26).add 0) = some (.string x17_28)) ∧ (hcell h ((x22_30).add 0) = some (.string x24_33)) ∧ (hcell h ((x26_31).add 1) = some (.int .i64 x28_34))) w.heap) [19, 23, 24] (unb 25 0) mo hR (by kernel_rfl) (by kernel_rfl) (fun w' e => by rw [e]; exact ⟨qx13_27, qx17_28, qx24_33, qx28_34⟩) (fun w hh hR hs => ?_)
          replace H := M.at hh H; clear hh
          refine d_pureg (i := 0) (v := .pointer x0) (unb 25 1) rfl rfl hT (anyM hM (by kernel_rfl)) hE rfl (wanted_none rfl) (fun w => r_move hE rfl) (fun a hE => ?_)
          refine d_pureg (i := 1) (v := .pointer (some x11_25)) (unb 25 3) rfl rfl hT (anyM hM (by kernel_rfl)) hE rfl (wanted_none rfl) (fun w => r_nilCheck hE (hx_eq rfl (congrArg Value.pointer qx11_25))) (fun a hE => ?_)
          refine d_pureg (i := 2) (v := .pointer (some ((x11_25).add 1))) (unb 25 7) rfl rfl hT (anyM hM (by kernel_rfl)) hE rfl (wanted_none rfl) (fun w => r_fieldAddr hE rfl fd146_1) (fun a hE => ?_)
          refine d_pureg (i := 4) (v := .pointer x0) (unb 25 23) rfl rfl hT (anyM hM (by kernel_rfl)) hE rfl (wanted_none rfl) (fun w => r_move hE rfl) (fun a hE => ?_)
          refine d_pureg (i := 5) (v := .pointer (some x15_26)) (unb 25 55) rfl rfl hT (anyM hM (by kernel_rfl)) hE rfl (wanted_none rfl) (fun w => r_nilCheck hE (hx_eq rfl (congrArg Value.pointer qx15_26))) (fun a hE => ?_)
          refine d_pureg (i := 6) (v := .pointer (some ((x15_26).add 0))) (unb 25 119) rfl rfl hT (anyM hM (by kernel_rfl)) hE rfl (wanted_none rfl) (fun w => r_fieldAddr hE rfl fd146_0) (fun a hE => ?_)
          refine d_read (i := 3) (v := .int .i64 x13_27) (unb 25 127) rfl rfl hT (takeM hM (by kernel_rfl)) hE rfl (wanted_none rfl) hs (fun w s => r_load hE rfl sc3 s.1) (fun a hE => ?_)
          refine d_read (i := 7) (v := .string x17_28) (unb 25 255) rfl rfl hT (takeM hM (by kernel_rfl)) hE rfl (wanted_none rfl) hs (fun w s => r_load hE rfl sc9 s.2.1) (fun a hE => ?_)
          refine d_pureg (i := 8) (v := .int .i64 (x17_28.size : Int)) (unb 25 511) rfl rfl hT (anyM hM (by kernel_rfl)) hE rfl (wanted_none rfl) (fun w => r_lenS hE rfl un9) (fun a hE => ?_)
          refine d_pureg (i := 9) (v := .bool (decide (x13_27 ≥ (x17_28.size : Int)))) (unb 25 1023) rfl rfl hT (anyM hM (by kernel_rfl)) hE rfl (wanted_none rfl) (fun w => r_bin hE rfl rfl g_int b_geq) (fun a hE => ?_)
          refine d_pureg (i := 10) (v := .bool (decide (x13_27 ≥ (x17_28.size : Int)))) (unb 25 2047) rfl rfl hT (anyM hM (by kernel_rfl)) hE rfl (wanted_none rfl) (fun w => r_move hE rfl) (fun a hE => ?_)
          have hE := hE.reb 20 (decide (x13_27 ≥ (x17_28.size : Int))) false hb_29 rfl
          replace hE := hE.cut (l' := [(0, .pointer x0), (1, .string x1), (6, .int .i64 (x1.size : Int)), (7, .int .i64 x7_2), (4, .int .i64 x7_2), (20, .bool false)]) (.cons rfl (.cons rfl (.cons rfl (.cons rfl (.cons rfl (.cons rfl Subs.nil))))))
          refine d_pureg (i := 11) (v := .pointer x0) (unb 25 4095) rfl rfl hT (anyM hM (by kernel_rfl)) hE rfl (wanted_of rfl hE rfl rfl rfl) (fun w => r_move hE rfl) (fun a hE => ?_)
          refine d_pureg (i := 12) (v := .pointer (some x22_30)) (unb 25 8191) rfl rfl hT (anyM hM (by kernel_rfl)) hE rfl (wanted_of rfl hE rfl rfl rfl) (fun w => r_nilCheck hE (hx_eq rfl (congrArg Value.pointer qx22_30))) (fun a hE => ?_)
          refine d_pureg (i := 13) (v := .pointer (some ((x22_30).add 0))) (unb 25 16383) rfl rfl hT (anyM hM (by kernel_rfl)) hE rfl (wanted_of rfl hE rfl rfl rfl) (fun w => r_fieldAddr hE rfl fd146_0) (fun a hE => ?_)
          refine d_pureg (i := 15) (v := .pointer x0) (unb 25 49151) rfl rfl hT (anyM hM (by kernel_rfl)) hE rfl (wanted_of rfl hE rfl rfl rfl) (fun w => r_move hE rfl) (fun a hE => ?_)
          refine d_pureg (i := 16) (v := .pointer (some x26_31)) (unb 25 114687) rfl rfl hT (anyM hM (by kernel_rfl)) hE rfl (wanted_of rfl hE rfl rfl rfl) (fun w => r_nilCheck hE (hx_eq rfl (congrArg Value.pointer qx26_31))) (fun a hE => ?_)
          refine d_pureg (i := 17) (v := .pointer (some ((x26_31).add 1))) (unb 25 245759) rfl rfl hT (anyM hM (by kernel_rfl)) hE rfl (wanted_of rfl hE rfl rfl rfl) (fun w => r_fieldAddr hE rfl fd146_1) (fun a hE => ?_)
          refine d_pureg (i := 20) (v := .string x1) (unb 25 1294335) rfl rfl hT (anyM hM (by kernel_rfl)) hE rfl (wanted_of rfl hE rfl rfl rfl) (fun w => r_move hE rfl) (fun a hE => ?_)
          refine d_pureg (i := 21) (v := .int .i64 x7_2) (unb 25 3391487) rfl rfl hT (anyM hM (by kernel_rfl)) hE rfl (wanted_of rfl hE rfl rfl rfl) (fun w => r_move hE rfl) (fun a hE => ?_)
          refine d_pureg (i := 22) (v := .int .u8 x32_32) (unb 25 7585791) rfl rfl hT (anyM hM (by kernel_rfl)) hE rfl (wanted_of rfl hE rfl rfl rfl) (fun w => r_indexS hE rfl rfl un9 qx32_32) (fun a hE => ?_)
          refine d_read (i := 14) (v := .string x24_33) (unb 25 7602175) rfl rfl hT (takeM hM (by kernel_rfl)) hE rfl (wanted_of rfl hE rfl rfl rfl) hs (fun w s => r_load hE rfl sc9 s.2.2.1) (fun a hE => ?_)
          refine d_read (i := 18) (v := .int .i64 x28_34) (unb 25 7864319) rfl rfl hT (takeM hM (by kernel_rfl)) hE rfl (wanted_of rfl hE rfl rfl rfl) hs (fun w s => r_load hE rfl sc3 s.2.2.2) (fun a hE => ?_)
          refine d_pureg (i := 19) (v := .int .u8 x29_35) (unb 25 8388607) rfl rfl hT (anyM hM (by kernel_rfl)) hE rfl (wanted_of rfl hE rfl rfl rfl) (fun w => r_indexS hE rfl rfl un9 qx29_35) (fun a hE => ?_)
          refine d_pureg (i := 23) (v := .bool (x29_35 != x32_32)) (unb 25 16777215) rfl rfl hT (anyM hM (by kernel_rfl)) hE rfl (wanted_of rfl hE rfl rfl rfl) (fun w => r_bin hE rfl rfl g_int b_neq) (fun a hE => ?_)
          refine d_pureg (i := 24) (v := .bool (x29_35 != x32_32)) (unb 25 33554431) rfl rfl hT (anyM hM (by kernel_rfl)) hE rfl (wanted_none rfl) (fun w => r_pick_f hE rfl rfl) (fun a hE => ?_)
          refine d_done hT (doneM hM (by kernel_rfl)) ?_
          exact ⟨x29_35 != x32_32, hE.cut (.cons rfl (.cons rfl (.cons rfl (.cons rfl (.cons rfl Subs.nil))))), hR, H⟩
  · replace H := M.ite_f hb H
    refine w_exit ?_
    refine Xu.same ?_
    exact hret _ _ _ () _ hE hR (res_run hE rfl RV.nil) rfl H

def strings_IndexByte (x0 : ByteArray) (x1 : Int) : M (Int) := do
  let x7_3 ← internal_stringslite_IndexByte x0 x1
  M.pure x7_3
theorem S_strings_IndexByte (x0 : ByteArray) (x1 : Int) : Sound Go.Proofs.Tryz.prog 242 #[.string x0, .int .u8 x1] (fun (r : Int) => .int .i64 r) (strings_IndexByte x0 x1) := by
  refine sound_of [(0, .string x0), (1, .int .u8 x1)] Go.Proofs.Tryz.func242 rfl rfl (Nat.le_of_ble_eq_true rfl) (args_of ⟨rfl, rfl, trivial⟩) (fun w0 w Q R a hret hE hR H => ?_)
  unfold strings_IndexByte at H
  refine w_seq (fun K hK_1 => ?_)
  refine t_region ?_
  refine t_val (v := .int .i64 0) rfl rfl hE rfl (r_assign hE rfl) (fun a hE => ?_)
  refine t_nil ?_
  refine hK_1 _ _ ?_
  refine w_seq (fun K hK_2 => ?_)
  refine t_region ?_
  refine t_val (v := .string x0) rfl rfl hE rfl (r_move hE rfl) (fun a hE => ?_)
  refine t_val (v := .int .u8 x1) rfl rfl hE rfl (r_move hE rfl) (fun a hE => ?_)
  refine t_call hE hR cl_internal_stringslite_IndexByte rfl (S_internal_stringslite_IndexByte x0 x1) (M.unbind H) (fun x7_3 a w ea hR H => ?_)
  have hE := Env.put_some hE rfl ea; clear ea
  refine t_val (v := .int .i64 x7_3) rfl rfl hE rfl (r_assign hE rfl) (fun a hE => ?_)
  refine t_nil ?_
  refine hK_2 _ _ ?_
  refine w_ret ?_
  exact hret _ _ _ x7_3 _ hE hR (res_run hE rfl (RV.tmp rfl RV.nil)) rfl H

end Gx
namespace Gx
open Go
set_option linter.unusedVariables false
set_option maxRecDepth 100000
def value_reader_escaped_j2 (c0_28 : Option Addr) (c4_29 : Int) (c5_30 : Int) : M (Value ⊕ (Int)) := do
  let x86_32 ← nilP c0_28
  let x88_33 ← ldI .i64 ((x86_32).add 1)
  let x90_34 ← nilP c0_28
  stV ((x90_34).add 1) (.int .i64 (IntKind.wrap .i64 (x88_33 + 1)))
  M.pure (.inr (IntKind.wrap .u8 (iOr .i64 (iShl .i64 c4_29 4) c5_30)))
def value_reader_escaped_j3 (c0_38 : Option Addr) (c4_39 : Int) (c5_40 : Int) (x82_37 : Bool) : M (Value ⊕ (Int)) := do
  M.ite x82_37 (do
    thr (value_reader_fail c0_38) fun x84_41 => do
      value_reader_escaped_j2 c0_38 c4_39 c5_40
    ) (do
    value_reader_escaped_j2 c0_38 c4_39 c5_40
    )
noncomputable def ro218_11 : Array Oper := opsOf Go.Proofs.Tryz.f218 11
def tE218_11 : List (List Nat) := [[], [0], [1], [2], [], [4], [5], [6], [7], [3, 8], [9], [10], [11, 10], [10, 12], [13, 10], [14], [15, 14], [16, 14, 14], [17], [18, 17], [17, 19, 14], [14, 20]]
def tC218_11 : List (List Nat) := [[], [0], [1], [2], [], [4], [5], [6], [7], [3, 8], [9], [10], [10, 11], [10, 12], [13], [14], [14, 15], [14, 16], [17], [17, 18], [14, 17, 19], [14, 20]]
def tW218_11 : List (List Nat) := [[], [0], [0, 1], [0, 1, 2], [], [4], [4, 5], [4, 5, 6], [4, 5, 6, 7], [0, 1, 2, 3, 4, 5, 6, 7, 8], [0, 1, 2, 3, 4, 5, 6, 7, 8, 9], [0, 1, 2, 3, 4, 5, 6, 7, 8, 9, 10], [0, 1, 2, 3, 4, 5, 6, 7, 8, 9, 10, 11], [0, 1, 2, 3, 4, 5, 6, 7, 8, 9, 10, 11, 12], [0, 1, 2, 3, 4, 5, 6, 7, 8, 9, 10, 11, 12, 13], [0, 1, 2, 3, 4, 5, 6, 7, 8, 9, 10, 11, 12, 13, 14], [0, 1, 2, 3, 4, 5, 6, 7, 8, 9, 10, 11, 12, 13, 14, 15], [0, 1, 2, 3, 4, 5, 6, 7, 8, 9, 10, 11, 12, 13, 14, 15, 16], [0, 1, 2, 3, 4, 5, 6, 7, 8, 9, 10, 11, 12, 13, 14, 15, 16, 17], [0, 1, 2, 3, 4, 5, 6, 7, 8, 9, 10, 11, 12, 13, 14, 15, 16, 17, 18], [0, 1, 2, 3, 4, 5, 6, 7, 8, 9, 10, 11, 12, 13, 14, 15, 16, 17, 18, 19], [0, 1, 2, 3, 4, 5, 6, 7, 8, 9, 10, 11, 12, 13, 14, 15, 16, 17, 18, 19, 20]]
theorem tb218_11 : tabAt Go.Proofs.Tryz.f218 11 tE218_11 tC218_11 tW218_11 = true := by kernel_rfl
theorem tb218_11m : tabMB 22 tE218_11 tC218_11 tW218_11 [0, 1, 2, 4, 0, 16, 32, 64, 128, 264, 512, 1024, 3072, 5120, 9216, 16384, 49152, 81920, 131072, 393216, 671744, 1064960] [0, 1, 2, 4, 0, 16, 32, 64, 128, 264, 512, 1024, 3072, 5120, 8192, 16384, 49152, 81920, 131072, 393216, 671744, 1064960] [0, 1, 3, 7, 0, 16, 48, 112, 240, 511, 1023, 2047, 4095, 8191, 16383, 32767, 65535, 131071, 262143, 524287, 1048575, 2097151] = true := by kernel_rfl
def value_reader_escaped_j1 (c0_18 : Option Addr) (c4_19 : Int) : M (Value ⊕ (Int)) := do
  let x52_21 ← nilP c0_18
  let x54_22 ← ldI .i64 ((x52_21).add 1)
  let x56_23 ← nilP c0_18
  stV ((x56_23).add 1) (.int .i64 (IntKind.wrap .i64 (x54_22 + 1)))
  let x59_26 ← value_reader_here c0_18
  let x60_27 ← strings_IndexByte (⟨#[48, 49, 50, 51, 52, 53, 54, 55, 56, 57, 97, 98, 99, 100, 101, 102]⟩ : ByteArray) x59_26
  let x62_42 ← nilP c0_18
  let x66_43 ← nilP c0_18
  let x64_44 ← ldI .i64 ((x62_42).add 1)
  let x68_45 ← ldS ((x66_43).add 0)
  M.ite (decide (x64_44 ≥ (x68_45.size : Int))) (do
    value_reader_escaped_j3 c0_18 c4_19 x60_27 true
    ) (do
    M.ite (decide (x60_27 < 0)) (do
      value_reader_escaped_j3 c0_18 c4_19 x60_27 true
      ) (do
      M.ite (c4_19 == 7) (do
        value_reader_escaped_j3 c0_18 c4_19 x60_27 (decide (x60_27 < 15))
        ) (do
        value_reader_escaped_j3 c0_18 c4_19 x60_27 false
        )
      )
    )
def value_reader_escaped_j4 (c0_50 : Option Addr) (c4_51 : Int) (x48_49 : Bool) : M (Value ⊕ (Int)) := do
  M.ite x48_49 (do
    thr (value_reader_fail c0_50) fun x50_52 => do
      value_reader_escaped_j1 c0_50 c4_51
    ) (do
    value_reader_escaped_j1 c0_50 c4_51
    )
noncomputable def ro218_7 : Array Oper := opsOf Go.Proofs.Tryz.f218 7
def tE218_7 : List (List Nat) := [[], [0], [1], [2], [], [4], [5], [6], [7], [3, 8], [9], [10], [11, 10], [10, 12], [13, 10], [14], [15, 14], [16, 14, 14], [17], [18, 17], [17, 19, 14], [14, 20]]
def tC218_7 : List (List Nat) := [[], [0], [1], [2], [], [4], [5], [6], [7], [3, 8], [9], [10], [10, 11], [10, 12], [13], [14], [14, 15], [14, 16], [17], [17, 18], [14, 17, 19], [14, 20]]
def tW218_7 : List (List Nat) := [[], [0], [0, 1], [0, 1, 2], [], [4], [4, 5], [4, 5, 6], [4, 5, 6, 7], [0, 1, 2, 3, 4, 5, 6, 7, 8], [0, 1, 2, 3, 4, 5, 6, 7, 8, 9], [0, 1, 2, 3, 4, 5, 6, 7, 8, 9, 10], [0, 1, 2, 3, 4, 5, 6, 7, 8, 9, 10, 11], [0, 1, 2, 3, 4, 5, 6, 7, 8, 9, 10, 11, 12], [0, 1, 2, 3, 4, 5, 6, 7, 8, 9, 10, 11, 12, 13], [0, 1, 2, 3, 4, 5, 6, 7, 8, 9, 10, 11, 12, 13, 14], [0, 1, 2, 3, 4, 5, 6, 7, 8, 9, 10, 11, 12, 13, 14, 15], [0, 1, 2, 3, 4, 5, 6, 7, 8, 9, 10, 11, 12, 13, 14, 15, 16], [0, 1, 2, 3, 4, 5, 6, 7, 8, 9, 10, 11, 12, 13, 14, 15, 16, 17], [0, 1, 2, 3, 4, 5, 6, 7, 8, 9, 10, 11, 12, 13, 14, 15, 16, 17, 18], [0, 1, 2, 3, 4, 5, 6, 7, 8, 9, 10, 11, 12, 13, 14, 15, 16, 17, 18, 19], [0, 1, 2, 3, 4, 5, 6, 7, 8, 9, 10, 11, 12, 13, 14, 15, 16, 17, 18, 19, 20]]
theorem tb218_7 : tabAt Go.Proofs.Tryz.f218 7 tE218_7 tC218_7 tW218_7 = true := by kernel_rfl
theorem tb218_7m : tabMB 22 tE218_7 tC218_7 tW218_7 [0, 1, 2, 4, 0, 16, 32, 64, 128, 264, 512, 1024, 3072, 5120, 9216, 16384, 49152, 81920, 131072, 393216, 671744, 1064960] [0, 1, 2, 4, 0, 16, 32, 64, 128, 264, 512, 1024, 3072, 5120, 8192, 16384, 49152, 81920, 131072, 393216, 671744, 1064960] [0, 1, 3, 7, 0, 16, 48, 112, 240, 511, 1023, 2047, 4095, 8191, 16383, 32767, 65535, 131071, 262143, 524287, 1048575, 2097151] = true := by kernel_rfl
def value_reader_escaped (x0 : Option Addr) : M (Value ⊕ (Int)) := do
  let x7_4 ← value_reader_here x0
  let x13_6 ← M.ite (x7_4 == 39) (do
    M.pure true
    ) (do
    M.pure (x7_4 == 92)
    )
  M.ite x13_6 (do
    let x15_8 ← nilP x0
    let x17_9 ← ldI .i64 ((x15_8).add 1)
    let x19_10 ← nilP x0
    stV ((x19_10).add 1) (.int .i64 (IntKind.wrap .i64 (x17_9 + 1)))
    M.pure (.inr x7_4)
    ) (do
    thr (value_reader_must x0 (⟨#[120]⟩ : ByteArray)) fun x23_14 => do
      let x25_16 ← value_reader_here x0
      let x26_17 ← strings_IndexByte (⟨#[48, 49, 50, 51, 52, 53, 54, 55, 56, 57, 97, 98, 99, 100, 101, 102]⟩ : ByteArray) x25_16
      let x28_53 ← nilP x0
      let x32_54 ← nilP x0
      let x30_55 ← ldI .i64 ((x28_53).add 1)
      let x34_56 ← ldS ((x32_54).add 0)
      M.ite (decide (x30_55 ≥ (x34_56.size : Int))) (do
        value_reader_escaped_j4 x0 x26_17 true
        ) (do
        M.ite (decide (x26_17 < 0)) (do
          value_reader_escaped_j4 x0 x26_17 true
          ) (do
          M.ite (decide (x26_17 > 1)) (do
            value_reader_escaped_j4 x0 x26_17 (decide (x26_17 < 7))
            ) (do
            value_reader_escaped_j4 x0 x26_17 false
            )
          )
        )
    )
theorem S_value_reader_escaped (x0 : Option Addr) : SoundX Go.Proofs.Tryz.prog 218 #[.pointer x0] (fun (r : Int) => .int .u8 r) (value_reader_escaped x0) := by
  refine sound_ofX [(0, .pointer x0)] Go.Proofs.Tryz.func218 rfl rfl (Nat.le_of_ble_eq_true rfl) (args_of ⟨rfl, trivial⟩) (fun w0 w Q R X a hret hthr hE hR H => ?_)
  unfold value_reader_escaped at H
  refine w_seq (fun K hK_1 => ?_)
  refine t_region ?_
  refine t_val (v := .int .u8 0) rfl rfl hE rfl (r_assign hE rfl) (fun a hE => ?_)
  refine t_nil ?_
  refine hK_1 _ _ ?_
  refine w_seq (fun K hK_2 => ?_)
  refine w_seq (fun K hK_3 => ?_)
  refine t_region ?_
  refine t_val (v := .pointer x0) rfl rfl hE rfl (r_move hE rfl) (fun a hE => ?_)
  refine t_call hE hR cl_value_reader_here rfl (S_value_reader_here x0) (M.unbind H) (fun x7_4 a w ea hR H => ?_)
  have hE := Env.put_some hE rfl ea; clear ea
  refine t_val (v := .int .u8 x7_4) rfl rfl hE rfl (r_assign hE rfl) (fun a hE => ?_)
  refine t_nil ?_
  refine hK_3 _ _ ?_
  refine w_seq (fun K hK_5 => ?_)
  refine t_region ?_
  refine t_val (v := .int .u8 x7_4) rfl rfl hE rfl (r_move hE rfl) (fun a hE => ?_)
  refine t_val (v := .bool (x7_4 == 39)) rfl rfl hE rfl (r_bin hE rfl rfl g_int b_eql) (fun a hE => ?_)
  refine t_val (v := .bool (x7_4 == 39)) rfl rfl hE rfl (r_move hE rfl) (fun a hE => ?_)
  refine t_grp (n := (⟨97, []⟩ : Frm)) (w0 := w0) 3 (fun x13_6 : Bool => [(0, .pointer x0), (3, .int .u8 x7_4), (13, .bool x13_6)]) (M.unbind H) (fun Kr hKr H => ?_) ?_
  · rcases bool_em (x7_4 == 39) with hb | hb
    · replace H := M.ite_t hb H
      have hE := hE.reb 10 (x7_4 == 39) true hb rfl
      refine t_off rfl hE rfl rfl rfl (fun a ea => ?_)
      have hE := Env.put_some hE rfl ea; clear ea
      refine t_off rfl hE rfl rfl rfl (fun a ea => ?_)
      have hE := Env.put_some hE rfl ea; clear ea
      refine t_val rfl rfl hE rfl (r_pick_t hE rfl rfl) (fun a hE => ?_)
      refine t_nil ?_
      exact hKr _ _ _ (hE.cut (.cons rfl (.cons rfl (.cons rfl Subs.nil)))) hR H
    · replace H := M.ite_f hb H
      have hE := hE.reb 10 (x7_4 == 39) false hb rfl
      refine t_on rfl hE rfl rfl rfl ?_
      refine t_val (v := .int .u8 x7_4) rfl rfl hE rfl (r_move hE rfl) (fun a hE => ?_)
      refine t_on rfl hE rfl rfl rfl ?_
      refine t_val (v := .bool (x7_4 == 92)) rfl rfl hE rfl (r_bin hE rfl rfl g_int b_eql) (fun a hE => ?_)
      refine t_val rfl rfl hE rfl (r_pick_f hE rfl rfl) (fun a hE => ?_)
      refine t_nil ?_
      exact hKr _ _ _ (hE.cut (.cons rfl (.cons rfl (.cons rfl Subs.nil)))) hR H
  · intro x13_6 a w hE hR H
    refine t_nil ?_
    refine hK_5 _ _ ?_
    refine w_cond x13_6 hE rfl (fun hb => ?_) (fun hb => ?_)
    · replace H := M.ite_t hb H
      refine w_seq (fun K hK_7 => ?_)
      refine t_region ?_
      refine t_val (v := .pointer x0) rfl rfl hE rfl (r_move hE rfl) (fun a hE => ?_)
      obtain ⟨x15_8, qx15_8, H⟩ := H
      refine t_val (v := .pointer (some x15_8)) rfl rfl hE rfl (r_nilCheck hE (hx_eq rfl (congrArg Value.pointer qx15_8))) (fun a hE => ?_)
      refine t_val (v := .pointer (some ((x15_8).add 1))) rfl rfl hE rfl (r_fieldAddr hE rfl fd146_1) (fun a hE => ?_)
      obtain ⟨x17_9, qx17_9, H⟩ := H
      refine t_val (v := .int .i64 x17_9) rfl rfl hE rfl (r_load hE rfl sc3 qx17_9) (fun a hE => ?_)
      refine t_val (v := .int .i64 (IntKind.wrap .i64 (x17_9 + 1))) rfl rfl hE rfl (r_bin hE rfl rfl g_int b_add) (fun a hE => ?_)
      obtain ⟨x19_10, qx19_10, H⟩ := H
      refine t_val (v := .pointer (some x19_10)) rfl rfl hE rfl (r_nilCheck hE (hx_eq rfl (congrArg Value.pointer qx19_10))) (fun a hE => ?_)
      refine t_val (v := .pointer (some ((x19_10).add 1))) rfl rfl hE rfl (r_fieldAddr hE rfl fd146_1) (fun a hE => ?_)
      obtain ⟨u_11, qu_11, H⟩ := H
      refine t_sth rfl rfl hE hR (r_store hE rfl rfl sz3 qu_11) (fun a w hE hR hh => ?_)
      replace H := M.at hh H; clear hh
      refine t_nil ?_
      refine hK_7 _ _ ?_
      refine w_seq (fun K hK_12 => ?_)
      refine t_region ?_
      refine t_val (v := .int .u8 x7_4) rfl rfl hE rfl (r_move hE rfl) (fun a hE => ?_)
      refine t_val (v := .int .u8 x7_4) rfl rfl hE rfl (r_assign hE rfl) (fun a hE => ?_)
      refine t_nil ?_
      refine hK_12 _ _ ?_
      refine w_ret ?_
      exact hret _ _ _ x7_4 _ hE hR (res_run hE rfl (RV.tmp rfl RV.nil)) rfl H
    · replace H := M.ite_f hb H
      refine w_skip ?_
      refine hK_2 _ _ ?_
      refine w_seq (fun K hK_13 => ?_)
      refine t_region ?_
      refine t_val (v := .pointer x0) rfl rfl hE rfl (r_move hE rfl) (fun a hE => ?_)
      refine t_callX hE hR cl_value_reader_must rfl (S_value_reader_must x0 (⟨#[120]⟩ : ByteArray)) H (fun _ _ hR HQ => hthr _ _ hR HQ) (fun x23_14 a w ea hR H => ?_)
      have hE := Env.put_some hE rfl ea; clear ea
      refine t_nil ?_
      refine hK_13 _ _ ?_
      refine w_seq (fun K hK_15 => ?_)
      refine t_region ?_
      refine t_val (v := .pointer x0) rfl rfl hE rfl (r_move hE rfl) (fun a hE => ?_)
      refine t_call hE hR cl_value_reader_here rfl (S_value_reader_here x0) (M.unbind H) (fun x25_16 a w ea hR H => ?_)
      have hE := Env.put_some hE rfl ea; clear ea
      refine t_call hE hR cl_strings_IndexByte rfl (S_strings_IndexByte (⟨#[48, 49, 50, 51, 52, 53, 54, 55, 56, 57, 97, 98, 99, 100, 101, 102]⟩ : ByteArray) x25_16) (M.unbind H) (fun x26_17 a w ea hR H => ?_)
      have hE := Env.put_some hE rfl ea; clear ea
      refine t_val (v := .int .i64 x26_17) rfl rfl hE rfl (r_assign hE rfl) (fun a hE => ?_)
      refine t_nil ?_
      refine hK_15 _ _ ?_
      refine w_seq_join (fun a w => Env (⟨97, []⟩ : Frm) a [(0, .pointer x0), (4, .int .i64 x26_17)] ∧ Rest w0 w ∧ (value_reader_escaped_j1 x0 x26_17).wp w.heap Q) ?_ ?_
      · rintro a w ⟨hE, hR, H⟩
        unfold value_reader_escaped_j1 at H
        refine w_seq (fun K hK_20 => ?_)
        refine t_region ?_
        refine t_val (v := .pointer x0) rfl rfl hE rfl (r_move hE rfl) (fun a hE => ?_)
        obtain ⟨x52_21, qx52_21, H⟩ := H
        refine t_val (v := .pointer (some x52_21)) rfl rfl hE rfl (r_nilCheck hE (hx_eq rfl (congrArg Value.pointer qx52_21))) (fun a hE => ?_)
        refine t_val (v := .pointer (some ((x52_21).add 1))) rfl rfl hE rfl (r_fieldAddr hE rfl fd146_1) (fun a hE => ?_)
        obtain ⟨x54_22, qx54_22, H⟩ := H
        refine t_val (v := .int .i64 x54_22) rfl rfl hE rfl (r_load hE rfl sc3 qx54_22) (fun a hE => ?_)
        refine t_val (v := .int .i64 (IntKind.wrap .i64 (x54_22 + 1))) rfl rfl hE rfl (r_bin hE rfl rfl g_int b_add) (fun a hE => ?_)
        obtain ⟨x56_23, qx56_23, H⟩ := H
        refine t_val (v := .pointer (some x56_23)) rfl rfl hE rfl (r_nilCheck hE (hx_eq rfl (congrArg Value.pointer qx56_23))) (fun a hE => ?_)
        refine t_val (v := .pointer (some ((x56_23).add 1))) rfl rfl hE rfl (r_fieldAddr hE rfl fd146_1) (fun a hE => ?_)
        obtain ⟨u_24, qu_24, H⟩ := H
        refine t_sth rfl rfl hE hR (r_store hE rfl rfl sz3 qu_24) (fun a w hE hR hh => ?_)
        replace H := M.at hh H; clear hh
        refine t_nil ?_
        refine hK_20 _ _ ?_
        refine w_seq (fun K hK_25 => ?_)
        refine t_region ?_
        refine t_val (v := .pointer x0) rfl rfl hE rfl (r_move hE rfl) (fun a hE => ?_)
        refine t_call hE hR cl_value_reader_here rfl (S_value_reader_here x0) (M.unbind H) (fun x59_26 a w ea hR H => ?_)
        have hE := Env.put_some hE rfl ea; clear ea
        refine t_call hE hR cl_strings_IndexByte rfl (S_strings_IndexByte (⟨#[48, 49, 50, 51, 52, 53, 54, 55, 56, 57, 97, 98, 99, 100, 101, 102]⟩ : ByteArray) x59_26) (M.unbind H) (fun x60_27 a w ea hR H => ?_)
        have hE := Env.put_some hE rfl ea; clear ea
        refine t_val (v := .int .i64 x60_27) rfl rfl hE rfl (r_assign hE rfl) (fun a hE => ?_)
        refine t_nil ?_
        refine hK_25 _ _ ?_
        refine w_seq_join (fun a w => Env (⟨97, []⟩ : Frm) a [(0, .pointer x0), (4, .int .i64 x26_17), (5, .int .i64 x60_27)] ∧ Rest w0 w ∧ (value_reader_escaped_j2 x0 x26_17 x60_27).wp w.heap Q) ?_ ?_
        · rintro a w ⟨hE, hR, H⟩
          unfold value_reader_escaped_j2 at H
          refine w_seq (fun K hK_31 => ?_)
          refine t_region ?_
          refine t_val (v := .pointer x0) rfl rfl hE rfl (r_move hE rfl) (fun a hE => ?_)
          obtain ⟨x86_32, qx86_32, H⟩ := H
          refine t_val (v := .pointer (some x86_32)) rfl rfl hE rfl (r_nilCheck hE (hx_eq rfl (congrArg Value.pointer qx86_32))) (fun a hE => ?_)
          refine t_val (v := .pointer (some ((x86_32).add 1))) rfl rfl hE rfl (r_fieldAddr hE rfl fd146_1) (fun a hE => ?_)
          obtain ⟨x88_33, qx88_33, H⟩ := H
          refine t_val (v := .int .i64 x88_33) rfl rfl hE rfl (r_load hE rfl sc3 qx88_33) (fun a hE => ?_)
          refine t_val (v := .int .i64 (IntKind.wrap .i64 (x88_33 + 1))) rfl rfl hE rfl (r_bin hE rfl rfl g_int b_add) (fun a hE => ?_)
          obtain ⟨x90_34, qx90_34, H⟩ := H
          refine t_val (v := .pointer (some x90_34)) rfl rfl hE rfl (r_nilCheck hE (hx_eq rfl (congrArg Value.pointer qx90_34))) (fun a hE => ?_)
          refine t_val (v := .pointer (some ((x90_34).add 1))) rfl rfl hE rfl (r_fieldAddr hE rfl fd146_1) (fun a hE => ?_)
          obtain ⟨u_35, qu_35, H⟩ := H
          refine t_sth rfl rfl hE hR (r_store hE rfl rfl sz3 qu_35) (fun a w hE hR hh => ?_)
          replace H := M.at hh H; clear hh
          refine t_nil ?_
          refine hK_31 _ _ ?_
          refine w_seq (fun K hK_36 => ?_)
          refine t_region ?_
          refine t_val (v := .int .i64 x26_17) rfl rfl hE rfl (r_move hE rfl) (fun a hE => ?_)
          refine t_val (v := .int .i64 (iShl .i64 x26_17 4)) rfl rfl hE rfl (r_bin hE rfl rfl g_int (b_shl ⟨by decide, rfl⟩)) (fun a hE => ?_)
          refine t_val (v := .int .i64 x60_27) rfl rfl hE rfl (r_move hE rfl) (fun a hE => ?_)
          refine t_val (v := .int .i64 (iOr .i64 (iShl .i64 x26_17 4) x60_27)) rfl rfl hE rfl (r_bin hE rfl rfl g_int b_or) (fun a hE => ?_)
          refine t_val (v := .int .u8 (IntKind.wrap .u8 (iOr .i64 (iShl .i64 x26_17 4) x60_27))) rfl rfl hE rfl (r_convI hE rfl un3 un5) (fun a hE => ?_)
          refine t_val (v := .int .u8 (IntKind.wrap .u8 (iOr .i64 (iShl .i64 x26_17 4) x60_27))) rfl rfl hE rfl (r_assign hE rfl) (fun a hE => ?_)
          refine t_nil ?_
          refine hK_36 _ _ ?_
          refine w_ret ?_
          exact hret _ _ _ (IntKind.wrap .u8 (iOr .i64 (iShl .i64 x26_17 4) x60_27)) _ hE hR (res_run hE rfl (RV.tmp rfl RV.nil)) rfl H
        · skip
          refine w_seq_join (fun a w => ∃ (x82_37 : Bool), Env (⟨97, []⟩ : Frm) a [(0, .pointer x0), (4, .int .i64 x26_17), (5, .int .i64 x60_27), (82, .bool x82_37)] ∧ Rest w0 w ∧ (value_reader_escaped_j3 x0 x26_17 x60_27 x82_37).wp w.heap Q) ?_ ?_
          · rintro a w ⟨x82_37, hE, hR, H⟩
            unfold value_reader_escaped_j3 at H
            refine w_cond x82_37 hE rfl (fun hb => ?_) (fun hb => ?_)
            · replace H := M.ite_t hb H
              refine t_region ?_
              refine t_val (v := .pointer x0) rfl rfl hE rfl (r_move hE rfl) (fun a hE => ?_)
              refine t_callX hE hR cl_value_reader_fail rfl (S_value_reader_fail x0) H (fun _ _ hR HQ => hthr _ _ hR HQ) (fun x84_41 a w ea hR H => ?_)
              have hE := Env.put_some hE rfl ea; clear ea
              refine t_nil ?_
              exact ⟨hE.cut (.cons rfl (.cons rfl (.cons rfl Subs.nil))), hR, H⟩
            · replace H := M.ite_f hb H
              refine w_skip ?_
              exact ⟨hE.cut (.cons rfl (.cons rfl (.cons rfl Subs.nil))), hR, H⟩
          · skip
            obtain ⟨x62_42, qx62_42, H⟩ := H
            obtain ⟨x66_43, qx66_43, H⟩ := H
            obtain ⟨x64_44, qx64_44, H⟩ := H
            obtain ⟨x68_45, qx68_45, H⟩ := H
            rcases bool_em (decide (x64_44 ≥ (x68_45.size : Int))) with hb_46 | hb_46
            · replace H := M.ite_t hb_46 H
              refine reg_eq (rops := ro218_11) (by kernel_rfl) ?_
              have hT : Tab ro218_11 _ _ _ := tab_of tb218_11 rfl (by kernel_rfl)
              have hM := TabM.of tb218_11m
              refine d_start (m := 22) (fun w : World => (fun h : Heap => (hcell h ((x62_42).add 1) = some (.int .i64 x64_44)) ∧ (hcell h ((x66_43).add 0) = some (.string x68_45))) w.heap) [9, 10, 11, 12, 13, 14, 15, 16, 17, 18, 19, 20, 21] (unb 22 0) mo hR (by kernel_rfl) (by kernel_rfl) (fun w' e => by rw [e]; exact ⟨qx64_44, qx68_45⟩) (fun w hh hR hs => ?_)
              replace H := M.at hh H; clear hh
              refine d_pureg (i := 0) (v := .pointer x0) (unb 22 1) rfl rfl hT (anyM hM (by kernel_rfl)) hE rfl (wanted_none rfl) (fun w => r_move hE rfl) (fun a hE => ?_)
              refine d_pureg (i := 1) (v := .pointer (some x62_42)) (unb 22 3) rfl rfl hT (anyM hM (by kernel_rfl)) hE rfl (wanted_none rfl) (fun w => r_nilCheck hE (hx_eq rfl (congrArg Value.pointer qx62_42))) (fun a hE => ?_)
              refine d_pureg (i := 2) (v := .pointer (some ((x62_42).add 1))) (unb 22 7) rfl rfl hT (anyM hM (by kernel_rfl)) hE rfl (wanted_none rfl) (fun w => r_fieldAddr hE rfl fd146_1) (fun a hE => ?_)
              refine d_pureg (i := 4) (v := .pointer x0) (unb 22 23) rfl rfl hT (anyM hM (by kernel_rfl)) hE rfl (wanted_none rfl) (fun w => r_move hE rfl) (fun a hE => ?_)
              refine d_pureg (i := 5) (v := .pointer (some x66_43)) (unb 22 55) rfl rfl hT (anyM hM (by kernel_rfl)) hE rfl (wanted_none rfl) (fun w => r_nilCheck hE (hx_eq rfl (congrArg Value.pointer qx66_43))) (fun a hE => ?_)
              refine d_pureg (i := 6) (v := .pointer (some ((x66_43).add 0))) (unb 22 119) rfl rfl hT (anyM hM (by kernel_rfl)) hE rfl (wanted_none rfl) (fun w => r_fieldAddr hE rfl fd146_0) (fun a hE => ?_)
              refine d_read (i := 3) (v := .int .i64 x64_44) (unb 22 127) rfl rfl hT (takeM hM (by kernel_rfl)) hE rfl (wanted_none rfl) hs (fun w s => r_load hE rfl sc3 s.1) (fun a hE => ?_)
              refine d_read (i := 7) (v := .string x68_45) (unb 22 255) rfl rfl hT (takeM hM (by kernel_rfl)) hE rfl (wanted_none rfl) hs (fun w s => r_load hE rfl sc9 s.2) (fun a hE => ?_)
              refine d_pureg (i := 8) (v := .int .i64 (x68_45.size : Int)) (unb 22 511) rfl rfl hT (anyM hM (by kernel_rfl)) hE rfl (wanted_none rfl) (fun w => r_lenS hE rfl un9) (fun a hE => ?_)
              refine d_pureg (i := 9) (v := .bool (decide (x64_44 ≥ (x68_45.size : Int)))) (unb 22 1023) rfl rfl hT (anyM hM (by kernel_rfl)) hE rfl (wanted_none rfl) (fun w => r_bin hE rfl rfl g_int b_geq) (fun a hE => ?_)
              refine d_pureg (i := 10) (v := .bool (decide (x64_44 ≥ (x68_45.size : Int)))) (unb 22 2047) rfl rfl hT (anyM hM (by kernel_rfl)) hE rfl (wanted_none rfl) (fun w => r_move hE rfl) (fun a hE => ?_)
              have hE := hE.reb 71 (decide (x64_44 ≥ (x68_45.size : Int))) true hb_46 rfl
              replace hE := hE.cut (l' := [(0, .pointer x0), (4, .int .i64 x26_17), (5, .int .i64 x60_27), (71, .bool true)]) (.cons rfl (.cons rfl (.cons rfl (.cons rfl Subs.nil))))
              refine d_off (i := 11) (unb 22 4095) rfl rfl hT (anyM hM (by kernel_rfl)) (unwanted_of rfl hE rfl rfl rfl) (fun a ea => ?_)
              have hE := Env.put_some hE rfl ea; clear ea
              refine d_off (i := 12) (unb 22 8191) rfl rfl hT (anyM hM (by kernel_rfl)) (unwanted_of rfl hE rfl rfl rfl) (fun a ea => ?_)
              have hE := Env.put_some hE rfl ea; clear ea
              refine d_pureg (i := 13) (v := .bool true) (unb 22 16383) rfl rfl hT (anyM hM (by kernel_rfl)) hE rfl (wanted_none rfl) (fun w => r_pick_t hE rfl rfl) (fun a hE => ?_)
              refine d_pureg (i := 14) (v := .bool true) (unb 22 32767) rfl rfl hT (anyM hM (by kernel_rfl)) hE rfl (wanted_none rfl) (fun w => r_move hE rfl) (fun a hE => ?_)
              refine d_offsM' [(15, some 76), (16, some 77), (17, some 78), (18, some 79), (19, some 80), (20, some 81)] 1 hT hM hE (by kernel_rfl) (m' := 2097151) (by kernel_rfl) (fun a hE => ?_)
              refine d_pureg (i := 21) (v := .bool true) (unb 22 4194303) rfl rfl hT (anyM hM (by kernel_rfl)) hE rfl (wanted_none rfl) (fun w => r_pick_t hE rfl rfl) (fun a hE => ?_)
              refine d_done hT (doneM hM (by kernel_rfl)) ?_
              exact ⟨true, hE.cut (.cons rfl (.cons rfl (.cons rfl (.cons rfl Subs.nil)))), hR, H⟩
            · replace H := M.ite_f hb_46 H
              rcases bool_em (decide (x60_27 < 0)) with hb_47 | hb_47
              · replace H := M.ite_t hb_47 H
                refine reg_eq (rops := ro218_11) (by kernel_rfl) ?_
                have hT : Tab ro218_11 _ _ _ := tab_of tb218_11 rfl (by kernel_rfl)
                have hM := TabM.of tb218_11m
                refine d_start (m := 22) (fun w : World => (fun h : Heap => (hcell h ((x62_42).add 1) = some (.int .i64 x64_44)) ∧ (hcell h ((x66_43).add 0) = some (.string x68_45))) w.heap) [9, 10, 11, 12, 13, 14, 15, 16, 17, 18, 19, 20, 21] (unb 22 0) mo hR (by kernel_rfl) (by kernel_rfl) (fun w' e => by rw [e]; exact ⟨qx64_44, qx68_45⟩) (fun w hh hR hs => ?_)
                replace H := M.at hh H; clear hh
                refine d_pureg (i := 0) (v := .pointer x0) (unb 22 1) rfl rfl hT (anyM hM (by kernel_rfl)) hE rfl (wanted_none rfl) (fun w => r_move hE rfl) (fun a hE => ?_)
                refine d_pureg (i := 1) (v := .pointer (some x62_42)) (unb 22 3) rfl rfl hT (anyM hM (by kernel_rfl)) hE rfl (wanted_none rfl) (fun w => r_nilCheck hE (hx_eq rfl (congrArg Value.pointer qx62_42))) (fun a hE => ?_)
                refine d_pureg (i := 2) (v := .pointer (some ((x62_42).add 1))) (unb 22 7) rfl rfl hT (anyM hM (by kernel_rfl)) hE rfl (wanted_none rfl) (fun w => r_fieldAddr hE rfl fd146_1) (fun a hE => ?_)
                refine d_pureg (i := 4) (v := .pointer x0) (unb 22 23) rfl rfl hT (anyM hM (by kernel_rfl)) hE rfl (wanted_none rfl) (fun w => r_move hE rfl) (fun a hE => ?_)
                refine d_pureg (i := 5) (v := .pointer (some x66_43)) (unb 22 55) rfl rfl hT (anyM hM (by kernel_rfl)) hE rfl (wanted_none rfl) (fun w => r_nilCheck hE (hx_eq rfl (congrArg Value.pointer qx66_43))) (fun a hE => ?_)
                refine d_pureg (i := 6) (v := .pointer (some ((x66_43).add 0))) (unb 22 119) rfl rfl hT (anyM hM (by kernel_rfl)) hE rfl (wanted_none rfl) (fun w => r_fieldAddr hE rfl fd146_0) (fun a hE => ?_)
                refine d_read (i := 3) (v := .int .i64 x64_44) (unb 22 127) rfl rfl hT (takeM hM (by kernel_rfl)) hE rfl (wanted_none rfl) hs (fun w s => r_load hE rfl sc3 s.1) (fun a hE => ?_)
                refine d_read (i := 7) (v := .string x68_45) (unb 22 255) rfl rfl hT (takeM hM (by kernel_rfl)) hE rfl (wanted_none rfl) hs (fun w s => r_load hE rfl sc9 s.2) (fun a hE => ?_)
                refine d_pureg (i := 8) (v := .int .i64 (x68_45.size : Int)) (unb 22 511) rfl rfl hT (anyM hM (by kernel_rfl)) hE rfl (wanted_none rfl) (fun w => r_lenS hE rfl un9) (fun a hE => ?_)
                refine d_pureg (i := 9) (v := .bool (decide (x64_44 ≥ (x68_45.size : Int)))) (unb 22 1023) rfl rfl hT (anyM hM (by kernel_rfl)) hE rfl (wanted_none rfl) (fun w => r_bin hE rfl rfl g_int b_geq) (fun a hE => ?_)
                refine d_pureg (i := 10) (v := .bool (decide (x64_44 ≥ (x68_45.size : Int)))) (unb 22 2047) rfl rfl hT (anyM hM (by kernel_rfl)) hE rfl (wanted_none rfl) (fun w => r_move hE rfl) (fun a hE => ?_)
                have hE := hE.reb 71 (decide (x64_44 ≥ (x68_45.size : Int))) false hb_46 rfl
                replace hE := hE.cut (l' := [(0, .pointer x0), (4, .int .i64 x26_17), (5, .int .i64 x60_27), (71, .bool false)]) (.cons rfl (.cons rfl (.cons rfl (.cons rfl Subs.nil))))
                refine d_pureg (i := 11) (v := .int .i64 x60_27) (unb 22 4095) rfl rfl hT (anyM hM (by kernel_rfl)) hE rfl (wanted_of rfl hE rfl rfl rfl) (fun w => r_move hE rfl) (fun a hE => ?_)
                refine d_pureg (i := 12) (v := .bool (decide (x60_27 < 0))) (unb 22 8191) rfl rfl hT (anyM hM (by kernel_rfl)) hE rfl (wanted_of rfl hE rfl rfl rfl) (fun w => r_bin hE rfl rfl g_int b_lss) (fun a hE => ?_)
                refine d_pureg (i := 13) (v := .bool (decide (x60_27 < 0))) (unb 22 16383) rfl rfl hT (anyM hM (by kernel_rfl)) hE rfl (wanted_none rfl) (fun w => r_pick_f hE rfl rfl) (fun a hE => ?_)
                refine d_pureg (i := 14) (v := .bool (decide (x60_27 < 0))) (unb 22 32767) rfl rfl hT (anyM hM (by kernel_rfl)) hE rfl (wanted_none rfl) (fun w => r_move hE rfl) (fun a hE => ?_)
                have hE := hE.reb 75 (decide (x60_27 < 0)) true hb_47 rfl
                replace hE := hE.cut (l' := [(0, .pointer x0), (4, .int .i64 x26_17), (5, .int .i64 x60_27), (75, .bool true)]) (.cons rfl (.cons rfl (.cons rfl (.cons rfl Subs.nil))))
                refine d_offsM' [(15, some 76), (16, some 77), (17, some 78), (18, some 79), (19, some 80), (20, some 81)] 1 hT hM hE (by kernel_rfl) (m' := 2097151) (by kernel_rfl) (fun a hE => ?_)
                refine d_pureg (i := 21) (v := .bool true) (unb 22 4194303) rfl rfl hT (anyM hM (by kernel_rfl)) hE rfl (wanted_none rfl) (fun w => r_pick_t hE rfl rfl) (fun a hE => ?_)
                refine d_done hT (doneM hM (by kernel_rfl)) ?_
                exact ⟨true, hE.cut (.cons rfl (.cons rfl (.cons rfl (.cons rfl Subs.nil)))), hR, H⟩
              · replace H := M.ite_f hb_47 H
                rcases bool_em (x26_17 == 7) with hb_48 | hb_48
                · replace H := M.ite_t hb_48 H
                  refine reg_eq (rops := ro218_11) (by kernel_rfl) ?_
                  have hT : Tab ro218_11 _ _ _ := tab_of tb218_11 rfl (by kernel_rfl)
                  have hM := TabM.of tb218_11m
                  refine d_start (m := 22) (fun w : World => (fun h : Heap => (hcell h ((x62_42).add 1) = some (.int .i64 x64_44)) ∧ (hcell h ((x66_43).add 0) = some (.string x68_45))) w.heap) [9, 10, 11, 12, 13, 14, 15, 16, 17, 18, 19, 20, 21] (unb 22 0) mo hR (by kernel_rfl) (by kernel_rfl) (fun w' e => by rw [e]; exact ⟨qx64_44, qx68_45⟩) (fun w hh hR hs => ?_)
                  replace H := M.at hh H; clear hh
                  refine d_pureg (i := 0) (v := .pointer x0) (unb 22 1) rfl rfl hT (anyM hM (by kernel_rfl)) hE rfl (wanted_none rfl) (fun w => r_move hE rfl) (fun a hE => ?_)
                  refine d_pureg (i := 1) (v := .pointer (some x62_42)) (unb 22 3) rfl rfl hT (anyM hM (by kernel_rfl)) hE rfl (wanted_none rfl) (fun w => r_nilCheck hE (hx_eq rfl (congrArg Value.pointer qx62_42))) (fun a hE => ?_)
                  refine d_pureg (i := 2) (v := .pointer (some ((x62_42).add 1))) (unb 22 7) rfl rfl hT (anyM hM (by kernel_rfl)) hE rfl (wanted_none rfl) (fun w => r_fieldAddr hE rfl fd146_1) (fun a hE => ?_)
                  refine d_pureg (i := 4) (v := .pointer x0) (unb 22 23) rfl rfl hT (anyM hM (by kernel_rfl)) hE rfl (wanted_none rfl) (fun w => r_move hE rfl) (fun a hE => ?_)
                  refine d_pureg (i := 5) (v := .pointer (some x66_43)) (unb 22 55) rfl rfl hT (anyM hM (by kernel_rfl)) hE rfl (wanted_none rfl) (fun w => r_nilCheck hE (hx_eq rfl (congrArg Value.pointer qx66_43))) (fun a hE => ?_)
                  refine d_pureg (i := 6) (v := .pointer (some ((x66_43).add 0))) (unb 22 119) rfl rfl hT (anyM hM (by kernel_rfl)) hE rfl (wanted_none rfl) (fun w => r_fieldAddr hE rfl fd146_0) (fun a hE => ?_)
                  refine d_read (i := 3) (v := .int .i64 x64_44) (unb 22 127) rfl rfl hT (takeM hM (by kernel_rfl)) hE rfl (wanted_none rfl) hs (fun w s => r_load hE rfl sc3 s.1) (fun a hE => ?_)
                  refine d_read (i := 7) (v := .string x68_45) (unb 22 255) rfl rfl hT (takeM hM (by kernel_rfl)) hE rfl (wanted_none rfl) hs (fun w s => r_load hE rfl sc9 s.2) (fun a hE => ?_)
                  refine d_pureg (i := 8) (v := .int .i64 (x68_45.size : Int)) (unb 22 511) rfl rfl hT (anyM hM (by kernel_rfl)) hE rfl (wanted_none rfl) (fun w => r_lenS hE rfl un9) (fun a hE => ?_)
                  refine d_pureg (i := 9) (v := .bool (decide (x64_44 ≥ (x68_45.size : Int)))) (unb 22 1023) rfl rfl hT (anyM hM (by kernel_rfl)) hE rfl (wanted_none rfl) (fun w => r_bin hE rfl rfl g_int b_geq) (fun a hE => ?_)
                  refine d_pureg (i := 10) (v := .bool (decide (x64_44 ≥ (x68_45.size : Int)))) (unb 22 2047) rfl rfl hT (anyM hM (by kernel_rfl)) hE rfl (wanted_none rfl) (fun w => r_move hE rfl) (fun a hE => ?_)
                  have hE := hE.reb 71 (decide (x64_44 ≥ (x68_45.size : Int))) false hb_46 rfl
                  replace hE := hE.cut (l' := [(0, .pointer x0), (4, .int .i64 x26_17), (5, .int .i64 x60_27), (71, .bool false)]) (.cons rfl (.cons rfl (.cons rfl (.cons rfl Subs.nil))))
                  refine d_pureg (i := 11) (v := .int .i64 x60_27) (unb 22 4095) rfl rfl hT (anyM hM (by kernel_rfl)) hE rfl (wanted_of rfl hE rfl rfl rfl) (fun w => r_move hE rfl) (fun a hE => ?_)
                  refine d_pureg (i := 12) (v := .bool (decide (x60_27 < 0))) (unb 22 8191) rfl rfl hT (anyM hM (by kernel_rfl)) hE rfl (wanted_of rfl hE rfl rfl rfl) (fun w => r_bin hE rfl rfl g_int b_lss) (fun a hE => ?_)
                  refine d_pureg (i := 13) (v := .bool (decide (x60_27 < 0))) (unb 22 16383) rfl rfl hT (anyM hM (by kernel_rfl)) hE rfl (wanted_none rfl) (fun w => r_pick_f hE rfl rfl) (fun a hE => ?_)
                  refine d_pureg (i := 14) (v := .bool (decide (x60_27 < 0))) (unb 22 32767) rfl rfl hT (anyM hM (by kernel_rfl)) hE rfl (wanted_none rfl) (fun w => r_move hE rfl) (fun a hE => ?_)
                  have hE := hE.reb 75 (decide (x60_27 < 0)) false hb_47 rfl
                  replace hE := hE.cut (l' := [(0, .pointer x0), (4, .int .i64 x26_17), (5, .int .i64 x60_27), (75, .bool false)]) (.cons rfl (.cons rfl (.cons rfl (.cons rfl Subs.nil))))
                  refine d_pureg (i := 15) (v := .int .i64 x26_17) (unb 22 65535) rfl rfl hT (anyM hM (by kernel_rfl)) hE rfl (wanted_of rfl hE rfl rfl rfl) (fun w => r_move hE rfl) (fun a hE => ?_)
                  refine d_pureg (i := 16) (v := .bool (x26_17 == 7)) (unb 22 131071) rfl rfl hT (anyM hM (by kernel_rfl)) hE rfl (wanted_of rfl hE rfl rfl rfl) (fun w => r_bin hE rfl rfl g_int b_eql) (fun a hE => ?_)
                  refine d_pureg (i := 17) (v := .bool (x26_17 == 7)) (unb 22 262143) rfl rfl hT (anyM hM (by kernel_rfl)) hE rfl (wanted_of rfl hE rfl rfl rfl) (fun w => r_move hE rfl) (fun a hE => ?_)
                  have hE := hE.reb 78 (x26_17 == 7) true hb_48 rfl
                  replace hE := hE.cut (l' := [(0, .pointer x0), (4, .int .i64 x26_17), (5, .int .i64 x60_27), (75, .bool false), (78, .bool true)]) (.cons rfl (.cons rfl (.cons rfl (.cons rfl (.cons rfl Subs.nil)))))
                  refine d_pureg (i := 18) (v := .int .i64 x60_27) (unb 22 524287) rfl rfl hT (anyM hM (by kernel_rfl)) hE rfl (wanted_of rfl hE rfl rfl rfl) (fun w => r_move hE rfl) (fun a hE => ?_)
                  refine d_pureg (i := 19) (v := .bool (decide (x60_27 < 15))) (unb 22 1048575) rfl rfl hT (anyM hM (by kernel_rfl)) hE rfl (wanted_of rfl hE rfl rfl rfl) (fun w => r_bin hE rfl rfl g_int b_lss) (fun a hE => ?_)
                  refine d_pureg (i := 20) (v := .bool (decide (x60_27 < 15))) (unb 22 2097151) rfl rfl hT (anyM hM (by kernel_rfl)) hE rfl (wanted_of rfl hE rfl rfl rfl) (fun w => r_pick_t hE rfl rfl) (fun a hE => ?_)
                  refine d_pureg (i := 21) (v := .bool (decide (x60_27 < 15))) (unb 22 4194303) rfl rfl hT (anyM hM (by kernel_rfl)) hE rfl (wanted_none rfl) (fun w => r_pick_f hE rfl rfl) (fun a hE => ?_)
                  refine d_done hT (doneM hM (by kernel_rfl)) ?_
                  exact ⟨decide (x60_27 < 15), hE.cut (.cons rfl (.cons rfl (.cons rfl (.cons rfl Subs.nil)))), hR, H⟩
                · replace H := M.ite_f hb_48 H
                  refine reg_eq (rops := ro218_11) (by kernel_rfl) ?_
                  have hT : Tab ro218_11 _ _ _ := tab_of tb218_11 rfl (by kernel_rfl)
                  have hM := TabM.of tb218_11m
                  refine d_start (m := 22) (fun w : World => (fun h : Heap => (hcell h ((x62_42).add 1) = some (.int .i64 x64_44)) ∧ (hcell h ((x66_43).add 0) = some (.string x68_45))) w.heap) [9, 10, 11, 12, 13, 14, 15, 16, 17, 18, 19, 20, 21] (unb 22 0) mo hR (by kernel_rfl) (by kernel_rfl) (fun w' e => by rw [e]; exact ⟨qx64_44, qx68_45⟩) (fun w hh hR hs => ?_)
                  replace H := M.at hh H; clear hh
                  refine d_pureg (i := 0) (v := .pointer x0) (unb 22 1) rfl rfl hT (anyM hM (by kernel_rfl)) hE rfl (wanted_none rfl) (fun w => r_move hE rfl) (fun a hE => ?_)
                  refine d_pureg (i := 1) (v := .pointer (some x62_42)) (unb 22 3) rfl rfl hT (anyM hM (by kernel_rfl)) hE rfl (wanted_none rfl) (fun w => r_nilCheck hE (hx_eq rfl (congrArg Value.pointer qx62_42))) (fun a hE => ?_)
                  refine d_pureg (i := 2) (v := .pointer (some ((x62_42).add 1))) (unb 22 7) rfl rfl hT (anyM hM (by kernel_rfl)) hE rfl (wanted_none rfl) (fun w => r_fieldAddr hE rfl fd146_1) (fun a hE => ?_)
                  refine d_pureg (i := 4) (v := .pointer x0) (unb 22 23) rfl rfl hT (anyM hM (by kernel_rfl)) hE rfl (wanted_none rfl) (fun w => r_move hE rfl) (fun a hE => ?_)
                  refine d_pureg (i := 5) (v := .pointer (some x66_43)) (unb 22 55) rfl rfl hT (anyM hM (by kernel_rfl)) hE rfl (wanted_none rfl) (fun w => r_nilCheck hE (hx_eq rfl (congrArg Value.pointer qx66_43))) (fun a hE => ?_)
                  refine d_pureg (i := 6) (v := .pointer (some ((x66_43).add 0))) (unb 22 119) rfl rfl hT (anyM hM (by kernel_rfl)) hE rfl (wanted_none rfl) (fun w => r_fieldAddr hE rfl fd146_0) (fun a hE => ?_)
                  refine d_read (i := 3) (v := .int .i64 x64_44) (unb 22 127) rfl rfl hT (takeM hM (by kernel_rfl)) hE rfl (wanted_none rfl) hs (fun w s => r_load hE rfl sc3 s.1) (fun a hE => ?_)
                  refine d_read (i := 7) (v := .string x68_45) (unb 22 255) rfl rfl hT (takeM hM (by kernel_rfl)) hE rfl (wanted_none rfl) hs (fun w s => r_load hE rfl sc9 s.2) (fun a hE => ?_)
                  refine d_pureg (i := 8) (v := .int .i64 (x68_45.size : Int)) (unb 22 511) rfl rfl hT (anyM hM (by kernel_rfl)) hE rfl (wanted_none rfl) (fun w => r_lenS hE rfl un9) (fun a hE => ?_)
                  refine d_pureg (i := 9) (v := .bool (decide (x64_44 ≥ (x68_45.size : Int)))) (unb 22 1023) rfl rfl hT (anyM hM (by kernel_rfl)) hE rfl (wanted_none rfl) (fun w => r_bin hE rfl rfl g_int b_geq) (fun a hE => ?_)
                  refine d_pureg (i := 10) (v := .bool (decide (x64_44 ≥ (x68_45.size : Int)))) (unb 22 2047) rfl rfl hT (anyM hM (by kernel_rfl)) hE rfl (wanted_none rfl) (fun w => r_move hE rfl) (fun a hE => ?_)
                  have hE := hE.reb 71 (decide (x64_44 ≥ (x68_45.size : Int))) false hb_46 rfl
                  replace hE := hE.cut (l' := [(0, .pointer x0), (4, .int .i64 x26_17), (5, .int .i64 x60_27), (71, .bool false)]) (.cons rfl (.cons rfl (.cons rfl (.cons rfl Subs.nil))))
                  refine d_pureg (i := 11) (v := .int .i64 x60_27) (unb 22 4095) rfl rfl hT (anyM hM (by kernel_rfl)) hE rfl (wanted_of rfl hE rfl rfl rfl) (fun w => r_move hE rfl) (fun a hE => ?_)
                  refine d_pureg (i := 12) (v := .bool (decide (x60_27 < 0))) (unb 22 8191) rfl rfl hT (anyM hM (by kernel_rfl)) hE rfl (wanted_of rfl hE rfl rfl rfl) (fun w => r_bin hE rfl rfl g_int b_lss) (fun a hE => ?_)
                  refine d_pureg (i := 13) (v := .bool (decide (x60_27 < 0))) (unb 22 16383) rfl rfl hT (anyM hM (by kernel_rfl)) hE rfl (wanted_none rfl) (fun w => r_pick_f hE rfl rfl) (fun a hE => ?_)
                  refine d_pureg (i := 14) (v := .bool (decide (x60_27 < 0))) (unb 22 32767) rfl rfl hT (anyM hM (by kernel_rfl)) hE rfl (wanted_none rfl) (fun w => r_move hE rfl) (fun a hE => ?_)
                  have hE := hE.reb 75 (decide (x60_27 < 0)) false hb_47 rfl
                  replace hE := hE.cut (l' := [(0, .pointer x0), (4, .int .i64 x26_17), (5, .int .i64 x60_27), (75, .bool false)]) (.cons rfl (.cons rfl (.cons rfl (.cons rfl Subs.nil))))
                  refine d_pureg (i := 15) (v := .int .i64 x26_17) (unb 22 65535) rfl rfl hT (anyM hM (by kernel_rfl)) hE rfl (wanted_of rfl hE rfl rfl rfl) (fun w => r_move hE rfl) (fun a hE => ?_)
                  refine d_pureg (i := 16) (v := .bool (x26_17 == 7)) (unb 22 131071) rfl rfl hT (anyM hM (by kernel_rfl)) hE rfl (wanted_of rfl hE rfl rfl rfl) (fun w => r_bin hE rfl rfl g_int b_eql) (fun a hE => ?_)
                  refine d_pureg (i := 17) (v := .bool (x26_17 == 7)) (unb 22 262143) rfl rfl hT (anyM hM (by kernel_rfl)) hE rfl (wanted_of rfl hE rfl rfl rfl) (fun w => r_move hE rfl) (fun a hE => ?_)
                  have hE := hE.reb 78 (x26_17 == 7) false hb_48 rfl
                  replace hE := hE.cut (l' := [(0, .pointer x0), (4, .int .i64 x26_17), (5, .int .i64 x60_27), (75, .bool false), (78, .bool false)]) (.cons rfl (.cons rfl (.cons rfl (.cons rfl (.cons rfl Subs.nil)))))
                  refine d_off (i := 18) (unb 22 524287) rfl rfl hT (anyM hM (by kernel_rfl)) (unwanted_of rfl hE rfl rfl rfl) (fun a ea => ?_)
                  have hE := Env.put_some hE rfl ea; clear ea
                  refine d_off (i := 19) (unb 22 1048575) rfl rfl hT (anyM hM (by kernel_rfl)) (unwanted_of rfl hE rfl rfl rfl) (fun a ea => ?_)
                  have hE := Env.put_some hE rfl ea; clear ea
                  refine d_pureg (i := 20) (v := .bool false) (unb 22 2097151) rfl rfl hT (anyM hM (by kernel_rfl)) hE rfl (wanted_of rfl hE rfl rfl rfl) (fun w => r_pick_f hE rfl rfl) (fun a hE => ?_)
                  refine d_pureg (i := 21) (v := .bool false) (unb 22 4194303) rfl rfl hT (anyM hM (by kernel_rfl)) hE rfl (wanted_none rfl) (fun w => r_pick_f hE rfl rfl) (fun a hE => ?_)
                  refine d_done hT (doneM hM (by kernel_rfl)) ?_
                  exact ⟨false, hE.cut (.cons rfl (.cons rfl (.cons rfl (.cons rfl Subs.nil)))), hR, H⟩
      · skip
        refine w_seq_join (fun a w => ∃ (x48_49 : Bool), Env (⟨97, []⟩ : Frm) a [(0, .pointer x0), (4, .int .i64 x26_17), (48, .bool x48_49)] ∧ Rest w0 w ∧ (value_reader_escaped_j4 x0 x26_17 x48_49).wp w.heap Q) ?_ ?_
        · rintro a w ⟨x48_49, hE, hR, H⟩
          unfold value_reader_escaped_j4 at H
          refine w_cond x48_49 hE rfl (fun hb => ?_) (fun hb => ?_)
          · replace H := M.ite_t hb H
            refine t_region ?_
            refine t_val (v := .pointer x0) rfl rfl hE rfl (r_move hE rfl) (fun a hE => ?_)
            refine t_callX hE hR cl_value_reader_fail rfl (S_value_reader_fail x0) H (fun _ _ hR HQ => hthr _ _ hR HQ) (fun x50_52 a w ea hR H => ?_)
            have hE := Env.put_some hE rfl ea; clear ea
            refine t_nil ?_
            exact ⟨hE.cut (.cons rfl (.cons rfl Subs.nil)), hR, H⟩
          · replace H := M.ite_f hb H
            refine w_skip ?_
            exact ⟨hE.cut (.cons rfl (.cons rfl Subs.nil)), hR, H⟩
        · skip
          obtain ⟨x28_53, qx28_53, H⟩ := H
          obtain ⟨x32_54, qx32_54, H⟩ := H
          obtain ⟨x30_55, qx30_55, H⟩ := H
          obtain ⟨x34_56, qx34_56, H⟩ := H
          rcases bool_em (decide (x30_55 ≥ (x34_56.size : Int))) with hb_57 | hb_57
          · replace H := M.ite_t hb_57 H
            refine reg_eq (rops := ro218_7) (by kernel_rfl) ?_
            have hT : Tab ro218_7 _ _ _ := tab_of tb218_7 rfl (by kernel_rfl)
            have hM := TabM.of tb218_7m
            refine d_start (m := 22) (fun w : World => (fun h : Heap => (hcell h ((x28_53).add 1) = some (.int .i64 x30_55)) ∧ (hcell h ((x32_54).add 0) = some (.string x34_56))) w.heap) [9, 10, 11, 12, 13, 14, 15, 16, 17, 18, 19, 20, 21] (unb 22 0) mo hR (by kernel_rfl) (by kernel_rfl) (fun w' e => by rw [e]; exact ⟨qx30_55, qx34_56⟩) (fun w hh hR hs => ?_)
            replace H := M.at hh H; clear hh
            refine d_pureg (i := 0) (v := .pointer x0) (unb 22 1) rfl rfl hT (anyM hM (by kernel_rfl)) hE rfl (wanted_none rfl) (fun w => r_move hE rfl) (fun a hE => ?_)
            refine d_pureg (i := 1) (v := .pointer (some x28_53)) (unb 22 3) rfl rfl hT (anyM hM (by kernel_rfl)) hE rfl (wanted_none rfl) (fun w => r_nilCheck hE (hx_eq rfl (congrArg Value.pointer qx28_53))) (fun a hE => ?_)
            refine d_pureg (i := 2) (v := .pointer (some ((x28_53).add 1))) (unb 22 7) rfl rfl hT (anyM hM (by kernel_rfl)) hE rfl (wanted_none rfl) (fun w => r_fieldAddr hE rfl fd146_1) (fun a hE => ?_)
            refine d_pureg (i := 4) (v := .pointer x0) (unb 22 23) rfl rfl hT (anyM hM (by kernel_rfl)) hE rfl (wanted_none rfl) (fun w => r_move hE rfl) (fun a hE => ?_)
            refine d_pureg (i := 5) (v := .pointer (some x32_54)) (unb 22 55) rfl rfl hT (anyM hM (by kernel_rfl)) hE rfl (wanted_none rfl) (fun w => r_nilCheck hE (hx_eq rfl (congrArg Value.pointer qx32_54))) (fun a hE => ?_)
            refine d_pureg (i := 6) (v := .pointer (some ((x32_54).add 0))) (unb 22 119) rfl rfl hT (anyM hM (by kernel_rfl)) hE rfl (wanted_none rfl) (fun w => r_fieldAddr hE rfl fd146_0) (fun a hE => ?_)
            refine d_read (i := 3) (v := .int .i64 x30_55) (unb 22 127) rfl rfl hT (takeM hM (by kernel_rfl)) hE rfl (wanted_none rfl) hs (fun w s => r_load hE rfl sc3 s.1) (fun a hE => ?_)
            refine d_read (i := 7) (v := .string x34_56) (unb 22 255) rfl rfl hT (takeM hM (by kernel_rfl)) hE rfl (wanted_none rfl) hs (fun w s => r_load hE rfl sc9 s.2) (fun a hE => ?_)
            refine d_pureg (i := 8) (v := .int .i64 (x34_56.size : Int)) (unb 22 511) rfl rfl hT (anyM hM (by kernel_rfl)) hE rfl (wanted_none rfl) (fun w => r_lenS hE rfl un9) (fun a hE => ?_)
            refine d_pureg (i := 9) (v := .bool (decide (x30_55 ≥ (x34_56.size : Int)))) (unb 22 1023) rfl rfl hT (anyM hM (by kernel_rfl)) hE rfl (wanted_none rfl) (fun w => r_bin hE rfl rfl g_int b_geq) (fun a hE => ?_)
            refine d_pureg (i := 10) (v := .bool (decide (x30_55 ≥ (x34_56.size : Int)))) (unb 22 2047) rfl rfl hT (anyM hM (by kernel_rfl)) hE rfl (wanted_none rfl) (fun w => r_move hE rfl) (fun a hE => ?_)
            have hE := hE.reb 37 (decide (x30_55 ≥ (x34_56.size : Int))) true hb_57 rfl
            replace hE := hE.cut (l' := [(0, .pointer x0), (4, .int .i64 x26_17), (37, .bool true)]) (.cons rfl (.cons rfl (.cons rfl Subs.nil)))
            refine d_off (i := 11) (unb 22 4095) rfl rfl hT (anyM hM (by kernel_rfl)) (unwanted_of rfl hE rfl rfl rfl) (fun a ea => ?_)
            have hE := Env.put_some hE rfl ea; clear ea
            refine d_off (i := 12) (unb 22 8191) rfl rfl hT (anyM hM (by kernel_rfl)) (unwanted_of rfl hE rfl rfl rfl) (fun a ea => ?_)
            have hE := Env.put_some hE rfl ea; clear ea
            refine d_pureg (i := 13) (v := .bool true) (unb 22 16383) rfl rfl hT (anyM hM (by kernel_rfl)) hE rfl (wanted_none rfl) (fun w => r_pick_t hE rfl rfl) (fun a hE => ?_)
            refine d_pureg (i := 14) (v := .bool true) (unb 22 32767) rfl rfl hT (anyM hM (by kernel_rfl)) hE rfl (wanted_none rfl) (fun w => r_move hE rfl) (fun a hE => ?_)
            refine d_offsM' [(15, some 42), (16, some 43), (17, some 44), (18, some 45), (19, some 46), (20, some 47)] 1 hT hM hE (by kernel_rfl) (m' := 2097151) (by kernel_rfl) (fun a hE => ?_)
            refine d_pureg (i := 21) (v := .bool true) (unb 22 4194303) rfl rfl hT (anyM hM (by kernel_rfl)) hE rfl (wanted_none rfl) (fun w => r_pick_t hE rfl rfl) (fun a hE => ?_)
            refine d_done hT (doneM hM (by kernel_rfl)) ?_
            exact ⟨true, hE.cut (.cons rfl (.cons rfl (.cons rfl Subs.nil))), hR, H⟩
          · replace H := M.ite_f hb_57 H
            rcases bool_em (decide (x26_17 < 0)) with hb_58 | hb_58
            · replace H := M.ite_t hb_58 H
              refine reg_eq (rops := ro218_7) (by kernel_rfl) ?_
              have hT : Tab ro218_7 _ _ _ := tab_of tb218_7 rfl (by kernel_rfl)
              have hM := TabM.of tb218_7m
              refine d_start (m := 22) (fun w : World => (fun h : Heap => (hcell h ((x28_53).add 1) = some (.int .i64 x30_55)) ∧ (hcell h ((x32_54).add 0) = some (.string x34_56))) w.heap) [9, 10, 11, 12, 13, 14, 15, 16, 17, 18, 19, 20, 21] (unb 22 0) mo hR (by kernel_rfl) (by kernel_rfl) (fun w' e => by rw [e]; exact ⟨qx30_55, qx34_56⟩) (fun w hh hR hs => ?_)
              replace H := M.at hh H; clear hh
              refine d_pureg (i := 0) (v := .pointer x0) (unb 22 1) rfl rfl hT (anyM hM (by kernel_rfl)) hE rfl (wanted_none rfl) (fun w => r_move hE rfl) (fun a hE => ?_)
              refine d_pureg (i := 1) (v := .pointer (some x28_53)) (unb 22 3) rfl rfl hT (anyM hM (by kernel_rfl)) hE rfl (wanted_none rfl) (fun w => r_nilCheck hE (hx_eq rfl (congrArg Value.pointer qx28_53))) (fun a hE => ?_)
              refine d_pureg (i := 2) (v := .pointer (some ((x28_53).add 1))) (unb 22 7) rfl rfl hT (anyM hM (by kernel_rfl)) hE rfl (wanted_none rfl) (fun w => r_fieldAddr hE rfl fd146_1) (fun a hE => ?_)
              refine d_pureg (i := 4) (v := .pointer x0) (unb 22 23) rfl rfl hT (anyM hM (by kernel_rfl)) hE rfl (wanted_none rfl) (fun w => r_move hE rfl) (fun a hE => ?_)
              refine d_pureg (i := 5) (v := .pointer (some x32_54)) (unb 22 55) rfl rfl hT (anyM hM (by kernel_rfl)) hE rfl (wanted_none rfl) (fun w => r_nilCheck hE (hx_eq rfl (congrArg Value.pointer qx32_54))) (fun a hE => ?_)
              refine d_pureg (i := 6) (v := .pointer (some ((x32_54).add 0))) (unb 22 119) rfl rfl hT (anyM hM (by kernel_rfl)) hE rfl (wanted_none rfl) (fun w => r_fieldAddr hE rfl fd146_0) (fun a hE => ?_)
              refine d_read (i := 3) (v := .int .i64 x30_55) (unb 22 127) rfl rfl hT (takeM hM (by kernel_rfl)) hE rfl (wanted_none rfl) hs (fun w s => r_load hE rfl sc3 s.1) (fun a hE => ?_)
              refine d_read (i := 7) (v := .string x34_56) (unb 22 255) rfl rfl hT (takeM hM (by kernel_rfl)) hE rfl (wanted_none rfl) hs (fun w s => r_load hE rfl sc9 s.2) (fun a hE => ?_)
              refine d_pureg (i := 8) (v := .int .i64 (x34_56.size : Int)) (unb 22 511) rfl rfl hT (anyM hM (by kernel_rfl)) hE rfl (wanted_none rfl) (fun w => r_lenS hE rfl un9) (fun a hE => ?_)
              refine d_pureg (i := 9) (v := .bool (decide (x30_55 ≥ (x34_56.size : Int)))) (unb 22 1023) rfl rfl hT (anyM hM (by kernel_rfl)) hE rfl (wanted_none rfl) (fun w => r_bin hE rfl rfl g_int b_geq) (fun a hE => ?_)
              refine d_pureg (i := 10) (v := .bool (decide (x30_55 ≥ (x34_56.size : Int)))) (unb 22 2047) rfl rfl hT (anyM hM (by kernel_rfl)) hE rfl (wanted_none rfl) (fun w => r_move hE rfl) (fun a hE => ?_)
              have hE := hE.reb 37 (decide (x30_55 ≥ (x34_56.size : Int))) false hb_57 rfl
              replace hE := hE.cut (l' := [(0, .pointer x0), (4, .int .i64 x26_17), (37, .bool false)]) (.cons rfl (.cons rfl (.cons rfl Subs.nil)))
              refine d_pureg (i := 11) (v := .int .i64 x26_17) (unb 22 4095) rfl rfl hT (anyM hM (by kernel_rfl)) hE rfl (wanted_of rfl hE rfl rfl rfl) (fun w => r_move hE rfl) (fun a hE => ?_)
              refine d_pureg (i := 12) (v := .bool (decide (x26_17 < 0))) (unb 22 8191) rfl rfl hT (anyM hM (by kernel_rfl)) hE rfl (wanted_of rfl hE rfl rfl rfl) (fun w => r_bin hE rfl rfl g_int b_lss) (fun a hE => ?_)
              refine d_pureg (i := 13) (v := .bool (decide (x26_17 < 0))) (unb 22 16383) rfl rfl hT (anyM hM (by kernel_rfl)) hE rfl (wanted_none rfl) (fun w => r_pick_f hE rfl rfl) (fun a hE => ?_)
              refine d_pureg (i := 14) (v := .bool (decide (x26_17 < 0))) (unb 22 32767) rfl rfl hT (anyM hM (by kernel_rfl)) hE rfl (wanted_none rfl) (fun w => r_move hE rfl) (fun a hE => ?_)
              have hE := hE.reb 41 (decide (x26_17 < 0)) true hb_58 rfl
              replace hE := hE.cut (l' := [(0, .pointer x0), (4, .int .i64 x26_17), (41, .bool true)]) (.cons rfl (.cons rfl (.cons rfl Subs.nil)))
              refine d_offsM' [(15, some 42), (16, some 43), (17, some 44), (18, some 45), (19, some 46), (20, some 47)] 1 hT hM hE (by kernel_rfl) (m' := 2097151) (by kernel_rfl) (fun a hE => ?_)
              refine d_pureg (i := 21) (v := .bool true) (unb 22 4194303) rfl rfl hT (anyM hM (by kernel_rfl)) hE rfl (wanted_none rfl) (fun w => r_pick_t hE rfl rfl) (fun a hE => ?_)
              refine d_done hT (doneM hM (by kernel_rfl)) ?_
              exact ⟨true, hE.cut (.cons rfl (.cons rfl (.cons rfl Subs.nil))), hR, H⟩
            · replace H := M.ite_f hb_58 H
              rcases bool_em (decide (x26_17 > 1)) with hb_59 | hb_59
              · replace H := M.ite_t hb_59 H
                refine reg_eq (rops := ro218_7) (by kernel_rfl) ?_
                have hT : Tab ro218_7 _ _ _ := tab_of tb218_7 rfl (by kernel_rfl)
                have hM := TabM.of tb218_7m
                refine d_start (m := 22) (fun w : World => (fun h : Heap => (hcell h ((x28_53).add 1) = some (.int .i64 x30_55)) ∧ (hcell h ((x32_54).add 0) = some (.string x34_56))) w.heap) [9, 10, 11, 12, 13, 14, 15, 16, 17, 18, 19, 20, 21] (unb 22 0) mo hR (by kernel_rfl) (by kernel_rfl) (fun w' e => by rw [e]; exact ⟨qx30_55, qx34_56⟩) (fun w hh hR hs => ?_)
                replace H := M.at hh H; clear hh
                refine d_pureg (i := 0) (v := .pointer x0) (unb 22 1) rfl rfl hT (anyM hM (by kernel_rfl)) hE rfl (wanted_none rfl) (fun w => r_move hE rfl) (fun a hE => ?_)
                refine d_pureg (i := 1) (v := .pointer (some x28_53)) (unb 22 3) rfl rfl hT (anyM hM (by kernel_rfl)) hE rfl (wanted_none rfl) (fun w => r_nilCheck hE (hx_eq rfl (congrArg Value.pointer qx28_53))) (fun a hE => ?_)
                refine d_pureg (i := 2) (v := .pointer (some ((x28_53).add 1))) (unb 22 7) rfl rfl hT (anyM hM (by kernel_rfl)) hE rfl (wanted_none rfl) (fun w => r_fieldAddr hE rfl fd146_1) (fun a hE => ?_)
                refine d_pureg (i := 4) (v := .pointer x0) (unb 22 23) rfl rfl hT (anyM hM (by kernel_rfl)) hE rfl (wanted_none rfl) (fun w => r_move hE rfl) (fun a hE => ?_)
                refine d_pureg (i := 5) (v := .pointer (some x32_54)) (unb 22 55) rfl rfl hT (anyM hM (by kernel_rfl)) hE rfl (wanted_none rfl) (fun w => r_nilCheck hE (hx_eq rfl (congrArg Value.pointer qx32_54))) (fun a hE => ?_)
                refine d_pureg (i := 6) (v := .pointer (some ((x32_54).add 0))) (unb 22 119) rfl rfl hT (anyM hM (by kernel_rfl)) hE rfl (wanted_none rfl) (fun w => r_fieldAddr hE rfl fd146_0) (fun a hE => ?_)
                refine d_read (i := 3) (v := .int .i64 x30_55) (unb 22 127) rfl rfl hT (takeM hM (by kernel_rfl)) hE rfl (wanted_none rfl) hs (fun w s => r_load hE rfl sc3 s.1) (fun a hE => ?_)
                refine d_read (i := 7) (v := .string x34_56) (unb 22 255) rfl rfl hT (takeM hM (by kernel_rfl)) hE rfl (wanted_none rfl) hs (fun w s => r_load hE rfl sc9 s.2) (fun a hE => ?_)
                refine d_pureg (i := 8) (v := .int .i64 (x34_56.size : Int)) (unb 22 511) rfl rfl hT (anyM hM (by kernel_rfl)) hE rfl (wanted_none rfl) (fun w => r_lenS hE rfl un9) (fun a hE => ?_)
                refine d_pureg (i := 9) (v := .bool (decide (x30_55 ≥ (x34_56.size : Int)))) (unb 22 1023) rfl rfl hT (anyM hM (by kernel_rfl)) hE rfl (wanted_none rfl) (fun w => r_bin hE rfl rfl g_int b_geq) (fun a hE => ?_)
                refine d_pureg (i := 10) (v := .bool (decide (x30_55 ≥ (x34_56.size : Int)))) (unb 22 2047) rfl rfl hT (anyM hM (by kernel_rfl)) hE rfl (wanted_none rfl) (fun w => r_move hE rfl) (fun a hE => ?_)
                have hE := hE.reb 37 (decide (x30_55 ≥ (x34_56.size : Int))) false hb_57 rfl
                replace hE := hE.cut (l' := [(0, .pointer x0), (4, .int .i64 x26_17), (37, .bool false)]) (.cons rfl (.cons rfl (.cons rfl Subs.nil)))
                refine d_pureg (i := 11) (v := .int .i64 x26_17) (unb 22 4095) rfl rfl hT (anyM hM (by kernel_rfl)) hE rfl (wanted_of rfl hE rfl rfl rfl) (fun w => r_move hE rfl) (fun a hE => ?_)
                refine d_pureg (i := 12) (v := .bool (decide (x26_17 < 0))) (unb 22 8191) rfl rfl hT (anyM hM (by kernel_rfl)) hE rfl (wanted_of rfl hE rfl rfl rfl) (fun w => r_bin hE rfl rfl g_int b_lss) (fun a hE => ?_)
                refine d_pureg (i := 13) (v := .bool (decide (x26_17 < 0))) (unb 22 16383) rfl rfl hT (anyM hM (by kernel_rfl)) hE rfl (wanted_none rfl) (fun w => r_pick_f hE rfl rfl) (fun a hE => ?_)
                refine d_pureg (i := 14) (v := .bool (decide (x26_17 < 0))) (unb 22 32767) rfl rfl hT (anyM hM (by kernel_rfl)) hE rfl (wanted_none rfl) (fun w => r_move hE rfl) (fun a hE => ?_)
                have hE := hE.reb 41 (decide (x26_17 < 0)) false hb_58 rfl
                replace hE := hE.cut (l' := [(0, .pointer x0), (4, .int .i64 x26_17), (41, .bool false)]) (.cons rfl (.cons rfl (.cons rfl Subs.nil)))
                refine d_pureg (i := 15) (v := .int .i64 x26_17) (unb 22 65535) rfl rfl hT (anyM hM (by kernel_rfl)) hE rfl (wanted_of rfl hE rfl rfl rfl) (fun w => r_move hE rfl) (fun a hE => ?_)
                refine d_pureg (i := 16) (v := .bool (decide (x26_17 > 1))) (unb 22 131071) rfl rfl hT (anyM hM (by kernel_rfl)) hE rfl (wanted_of rfl hE rfl rfl rfl) (fun w => r_bin hE rfl rfl g_int b_gtr) (fun a hE => ?_)
                refine d_pureg (i := 17) (v := .bool (decide (x26_17 > 1))) (unb 22 262143) rfl rfl hT (anyM hM (by kernel_rfl)) hE rfl (wanted_of rfl hE rfl rfl rfl) (fun w => r_move hE rfl) (fun a hE => ?_)
                have hE := hE.reb 44 (decide (x26_17 > 1)) true hb_59 rfl
                replace hE := hE.cut (l' := [(0, .pointer x0), (4, .int .i64 x26_17), (41, .bool false), (44, .bool true)]) (.cons rfl (.cons rfl (.cons rfl (.cons rfl Subs.nil))))
                refine d_pureg (i := 18) (v := .int .i64 x26_17) (unb 22 524287) rfl rfl hT (anyM hM (by kernel_rfl)) hE rfl (wanted_of rfl hE rfl rfl rfl) (fun w => r_move hE rfl) (fun a hE => ?_)
                refine d_pureg (i := 19) (v := .bool (decide (x26_17 < 7))) (unb 22 1048575) rfl rfl hT (anyM hM (by kernel_rfl)) hE rfl (wanted_of rfl hE rfl rfl rfl) (fun w => r_bin hE rfl rfl g_int b_lss) (fun a hE => ?_)
                refine d_pureg (i := 20) (v := .bool (decide (x26_17 < 7))) (unb 22 2097151) rfl rfl hT (anyM hM (by kernel_rfl)) hE rfl (wanted_of rfl hE rfl rfl rfl) (fun w => r_pick_t hE rfl rfl) (fun a hE => ?_)
                refine d_pureg (i := 21) (v := .bool (decide (x26_17 < 7))) (unb 22 4194303) rfl rfl hT (anyM hM (by kernel_rfl)) hE rfl (wanted_none rfl) (fun w => r_pick_f hE rfl rfl) (fun a hE => ?_)
                refine d_done hT (doneM hM (by kernel_rfl)) ?_
                exact ⟨decide (x26_17 < 7), hE.cut (.cons rfl (.cons rfl (.cons rfl Subs.nil))), hR, H⟩
              · replace H := M.ite_f hb_59 H
                refine reg_eq (rops := ro218_7) (by kernel_rfl) ?_
                have hT : Tab ro218_7 _ _ _ := tab_of tb218_7 rfl (by kernel_rfl)
                have hM := TabM.of tb218_7m
                refine d_start (m := 22) (fun w : World => (fun h : Heap => (hcell h ((x28_53).add 1) = some (.int .i64 x30_55)) ∧ (hcell h ((x32_54).add 0) = some (.string x34_56))) w.heap) [9, 10, 11, 12, 13, 14, 15, 16, 17, 18, 19, 20, 21] (unb 22 0) mo hR (by kernel_rfl) (by kernel_rfl) (fun w' e => by rw [e]; exact ⟨qx30_55, qx34_56⟩) (fun w hh hR hs => ?_)
                replace H := M.at hh H; clear hh
                refine d_pureg (i := 0) (v := .pointer x0) (unb 22 1) rfl rfl hT (anyM hM (by kernel_rfl)) hE rfl (wanted_none rfl) (fun w => r_move hE rfl) (fun a hE => ?_)
                refine d_pureg (i := 1) (v := .pointer (some x28_53)) (unb 22 3) rfl rfl hT (anyM hM (by kernel_rfl)) hE rfl (wanted_none rfl) (fun w => r_nilCheck hE (hx_eq rfl (congrArg Value.pointer qx28_53))) (fun a hE => ?_)
                refine d_pureg (i := 2) (v := .pointer (some ((x28_53).add 1))) (unb 22 7) rfl rfl hT (anyM hM (by kernel_rfl)) hE rfl (wanted_none rfl) (fun w => r_fieldAddr hE rfl fd146_1) (fun a hE => ?_)
                refine d_pureg (i := 4) (v := .pointer x0) (unb 22 23) rfl rfl hT (anyM hM (by kernel_rfl)) hE rfl (wanted_none rfl) (fun w => r_move hE rfl) (fun a hE => ?_)
                refine d_pureg (i := 5) (v := .pointer (some x32_54)) (unb 22 55) rfl rfl hT (anyM hM (by kernel_rfl)) hE rfl (wanted_none rfl) (fun w => r_nilCheck hE (hx_eq rfl (congrArg Value.pointer qx32_54))) (fun a hE => ?_)
                refine d_pureg (i := 6) (v := .pointer (some ((x32_54).add 0))) (unb 22 119) rfl rfl hT (anyM hM (by kernel_rfl)) hE rfl (wanted_none rfl) (fun w => r_fieldAddr hE rfl fd146_0) (fun a hE => ?_)
                refine d_read (i := 3) (v := .int .i64 x30_55) (unb 22 127) rfl rfl hT (takeM hM (by kernel_rfl)) hE rfl (wanted_none rfl) hs (fun w s => r_load hE rfl sc3 s.1) (fun a hE => ?_)
                refine d_read (i := 7) (v := .string x34_56) (unb 22 255) rfl rfl hT (takeM hM (by kernel_rfl)) hE rfl (wanted_none rfl) hs (fun w s => r_load hE rfl sc9 s.2) (fun a hE => ?_)
                refine d_pureg (i := 8) (v := .int .i64 (x34_56.size : Int)) (unb 22 511) rfl rfl hT (anyM hM (by kernel_rfl)) hE rfl (wanted_none rfl) (fun w => r_lenS hE rfl un9) (fun a hE => ?_)
                refine d_pureg (i := 9) (v := .bool (decide (x30_55 ≥ (x34_56.size : Int)))) (unb 22 1023) rfl rfl hT (anyM hM (by kernel_rfl)) hE rfl (wanted_none rfl) (fun w => r_bin hE rfl rfl g_int b_geq) (fun a hE => ?_)
                refine d_pureg (i := 10) (v := .bool (decide (x30_55 ≥ (x34_56.size : Int)))) (unb 22 2047) rfl rfl hT (anyM hM (by kernel_rfl)) hE rfl (wanted_none rfl) (fun w => r_move hE rfl) (fun a hE => ?_)
                have hE := hE.reb 37 (decide (x30_55 ≥ (x34_56.size : Int))) false hb_57 rfl
                replace hE := hE.cut (l' := [(0, .pointer x0), (4, .int .i64 x26_17), (37, .bool false)]) (.cons rfl (.cons rfl (.cons rfl Subs.nil)))
                refine d_pureg (i := 11) (v := .int .i64 x26_17) (unb 22 4095) rfl rfl hT (anyM hM (by kernel_rfl)) hE rfl (wanted_of rfl hE rfl rfl rfl) (fun w => r_move hE rfl) (fun a hE => ?_)
                refine d_pureg (i := 12) (v := .bool (decide (x26_17 < 0))) (unb 22 8191) rfl rfl hT (anyM hM (by kernel_rfl)) hE rfl (wanted_of rfl hE rfl rfl rfl) (fun w => r_bin hE rfl rfl g_int b_lss) (fun a hE => ?_)
                refine d_pureg (i := 13) (v := .bool (decide (x26_17 < 0))) (unb 22 16383) rfl rfl hT (anyM hM (by kernel_rfl)) hE rfl (wanted_none rfl) (fun w => r_pick_f hE rfl rfl) (fun a hE => ?_)
                refine d_pureg (i := 14) (v := .bool (decide (x26_17 < 0))) (unb 22 32767) rfl rfl hT (anyM hM (by kernel_rfl)) hE rfl (wanted_none rfl) (fun w => r_move hE rfl) (fun a hE => ?_)
                have hE := hE.reb 41 (decide (x26_17 < 0)) false hb_58 rfl
                replace hE := hE.cut (l' := [(0, .pointer x0), (4, .int .i64 x26_17), (41, .bool false)]) (.cons rfl (.cons rfl (.cons rfl Subs.nil)))
                refine d_pureg (i := 15) (v := .int .i64 x26_17) (unb 22 65535) rfl rfl hT (anyM hM (by kernel_rfl)) hE rfl (wanted_of rfl hE rfl rfl rfl) (fun w => r_move hE rfl) (fun a hE => ?_)
                refine d_pureg (i := 16) (v := .bool (decide (x26_17 > 1))) (unb 22 131071) rfl rfl hT (anyM hM (by kernel_rfl)) hE rfl (wanted_of rfl hE rfl rfl rfl) (fun w => r_bin hE rfl rfl g_int b_gtr) (fun a hE => ?_)
                refine d_pureg (i := 17) (v := .bool (decide (x26_17 > 1))) (unb 22 262143) rfl rfl hT (anyM hM (by kernel_rfl)) hE rfl (wanted_of rfl hE rfl rfl rfl) (fun w => r_move hE rfl) (fun a hE => ?_)
                have hE := hE.reb 44 (decide (x26_17 > 1)) false hb_59 rfl
                replace hE := hE.cut (l' := [(0, .pointer x0), (4, .int .i64 x26_17), (41, .bool false), (44, .bool false)]) (.cons rfl (.cons rfl (.cons rfl (.cons rfl Subs.nil))))
                refine d_off (i := 18) (unb 22 524287) rfl rfl hT (anyM hM (by kernel_rfl)) (unwanted_of rfl hE rfl rfl rfl) (fun a ea => ?_)
                have hE := Env.put_some hE rfl ea; clear ea
                refine d_off (i := 19) (unb 22 1048575) rfl rfl hT (anyM hM (by kernel_rfl)) (unwanted_of rfl hE rfl rfl rfl) (fun a ea => ?_)
                have hE := Env.put_some hE rfl ea; clear ea
                refine d_pureg (i := 20) (v := .bool false) (unb 22 2097151) rfl rfl hT (anyM hM (by kernel_rfl)) hE rfl (wanted_of rfl hE rfl rfl rfl) (fun w => r_pick_f hE rfl rfl) (fun a hE => ?_)
                refine d_pureg (i := 21) (v := .bool false) (unb 22 4194303) rfl rfl hT (anyM hM (by kernel_rfl)) hE rfl (wanted_none rfl) (fun w => r_pick_f hE rfl rfl) (fun a hE => ?_)
                refine d_done hT (doneM hM (by kernel_rfl)) ?_
                exact ⟨false, hE.cut (.cons rfl (.cons rfl (.cons rfl Subs.nil))), hR, H⟩

end Gx
namespace Gx
open Go
set_option linter.unusedVariables false
set_option maxRecDepth 100000
def value_reader_str_j2 (self1 : (Sl) → M (Value ⊕ (ByteArray))) (c3_24 : Sl) (x4_22 : Int) : M (Value ⊕ (ByteArray)) := do
  let x33_25 ← bdL ty_uint8 1 #[.int .u8 x4_22]
  let x34_26 ← apL ty_uint8 1 1 (#[.int .u8 0] : Array Value) c3_24 x33_25
  self1 x34_26
def value_reader_str_j1 (self1 : (Sl) → M (Value ⊕ (ByteArray))) (c0_14 : Option Addr) (c3_15 : Sl) (c4_16 : Int) : M (Value ⊕ (ByteArray)) := do
  let x21_18 ← nilP c0_14
  let x23_19 ← ldI .i64 ((x21_18).add 1)
  let x25_20 ← nilP c0_14
  stV ((x25_20).add 1) (.int .i64 (IntKind.wrap .i64 (x23_19 + 1)))
  M.ite (c4_16 == 92) (do
    thr (value_reader_escaped c0_14) fun x30_28 => do
      value_reader_str_j2 self1 c3_15 x30_28
    ) (do
    value_reader_str_j2 self1 c3_15 c4_16
    )
def value_reader_str_l1 (c0_7 : Option Addr) (self1 : (Sl) → M (Value ⊕ (ByteArray))) : (Sl) → M (Value ⊕ (ByteArray)) := fun s => match s with
  | x3_6 => do
    let x8_11 ← value_reader_here c0_7
    M.ite (x8_11 != 39) (do
      let x11_13 ← value_reader_here c0_7
      let x17_30 ← M.ite (decide (x11_13 < 32)) (do
        M.pure true
        ) (do
        M.pure (decide (x11_13 > 126))
        )
      M.ite x17_30 (do
        thr (value_reader_fail c0_7) fun x19_31 => do
          value_reader_str_j1 self1 c0_7 x3_6 x11_13
        ) (do
        value_reader_str_j1 self1 c0_7 x3_6 x11_13
        )
      ) (do
      let x36_33 ← nilP c0_7
      let x38_34 ← ldI .i64 ((x36_33).add 1)
      let x40_35 ← nilP c0_7
      stV ((x40_35).add 1) (.int .i64 (IntKind.wrap .i64 (x38_34 + 1)))
      let x43_38 ← b2s x3_6
      M.pure (.inr x43_38)
      )
def value_reader_str (x0 : Option Addr) : M (Value ⊕ (ByteArray)) := do
  thr (value_reader_must x0 (⟨#[39]⟩ : ByteArray)) fun x6_5 => do
    M.loop (value_reader_str_l1 x0) Sl.nil
theorem S_value_reader_str (x0 : Option Addr) : SoundX Go.Proofs.Tryz.prog 173 #[.pointer x0] (fun (r : ByteArray) => .string r) (value_reader_str x0) := by
  refine sound_ofX [(0, .pointer x0)] Go.Proofs.Tryz.func173 rfl rfl (Nat.le_of_ble_eq_true rfl) (args_of ⟨rfl, trivial⟩) (fun w0 w Q R X a hret hthr hE hR H => ?_)
  unfold value_reader_str at H
  refine w_seq (fun K hK_1 => ?_)
  refine t_region ?_
  refine t_val (v := .string ByteArray.empty) rfl rfl hE rfl (r_assign hE rfl) (fun a hE => ?_)
  refine t_nil ?_
  refine hK_1 _ _ ?_
  refine w_seq (fun K hK_2 => ?_)
  refine t_region ?_
  refine t_val (v := (Sl.nil : Sl).v) rfl rfl hE rfl (r_assign hE rfl) (fun a hE => ?_)
  refine t_nil ?_
  refine hK_2 _ _ ?_
  refine w_seq (fun K hK_3 => ?_)
  refine w_seq (fun K hK_4 => ?_)
  refine t_region ?_
  refine t_val (v := .pointer x0) rfl rfl hE rfl (r_move hE rfl) (fun a hE => ?_)
  refine t_callX hE hR cl_value_reader_must rfl (S_value_reader_must x0 (⟨#[39]⟩ : ByteArray)) H (fun _ _ hR HQ => hthr _ _ hR HQ) (fun x6_5 a w ea hR H => ?_)
  have hE := Env.put_some hE rfl ea; clear ea
  refine t_nil ?_
  refine hK_4 _ _ ?_
  refine w_block ?_
  refine l_loop (fun (s : Sl) => (⟨44, []⟩ : Frm)) (fun (s : Sl) => [(0, .pointer x0), (3, (s : Sl).v)]) H (hE.cut (.cons rfl (.cons rfl Subs.nil))) hR (fun Y self1 hY_8 x3_6 a w hE hR H => ?_)
  replace hE : Env (⟨44, []⟩ : Frm) a [(0, .pointer x0), (3, (x3_6 : Sl).v)] := hE
  replace H : (value_reader_str_l1 x0 self1 x3_6).wp w.heap Q := H
  unfold value_reader_str_l1 at H
  refine w_seq (fun K hK_9 => ?_)
  refine w_seq (fun K hK_10 => ?_)
  refine t_region ?_
  refine t_val (v := .pointer x0) rfl rfl hE rfl (r_move hE rfl) (fun a hE => ?_)
  refine t_call hE hR cl_value_reader_here rfl (S_value_reader_here x0) (M.unbind H) (fun x8_11 a w ea hR H => ?_)
  have hE := Env.put_some hE rfl ea; clear ea
  refine t_val (v := .bool (x8_11 != 39)) rfl rfl hE rfl (r_bin hE rfl rfl g_int b_neq) (fun a hE => ?_)
  refine t_nil ?_
  refine hK_10 _ _ ?_
  refine w_cond (x8_11 != 39) hE rfl (fun hb => ?_) (fun hb => ?_)
  · replace H := M.ite_t hb H
    refine w_skip ?_
    refine hK_9 _ _ ?_
    refine w_block ?_
    refine w_seq (fun K hK_12 => ?_)
    refine t_region ?_
    refine t_val (v := .pointer x0) rfl rfl hE rfl (r_move hE rfl) (fun a hE => ?_)
    refine t_call hE hR cl_value_reader_here rfl (S_value_reader_here x0) (M.unbind H) (fun x11_13 a w ea hR H => ?_)
    have hE := Env.put_some hE rfl ea; clear ea
    refine t_val (v := .int .u8 x11_13) rfl rfl hE rfl (r_assign hE rfl) (fun a hE => ?_)
    refine t_nil ?_
    refine hK_12 _ _ ?_
    refine w_seq_join (fun a w => Env (⟨44, []⟩ : Frm) a [(0, .pointer x0), (3, (x3_6 : Sl).v), (4, .int .u8 x11_13)] ∧ Rest w0 w ∧ (value_reader_str_j1 self1 x0 x3_6 x11_13).wp w.heap Q) ?_ ?_
    · rintro a w ⟨hE, hR, H⟩
      unfold value_reader_str_j1 at H
      refine w_seq (fun K hK_17 => ?_)
      refine t_region ?_
      refine t_val (v := .pointer x0) rfl rfl hE rfl (r_move hE rfl) (fun a hE => ?_)
      obtain ⟨x21_18, qx21_18, H⟩ := H
      refine t_val (v := .pointer (some x21_18)) rfl rfl hE rfl (r_nilCheck hE (hx_eq rfl (congrArg Value.pointer qx21_18))) (fun a hE => ?_)
      refine t_val (v := .pointer (some ((x21_18).add 1))) rfl rfl hE rfl (r_fieldAddr hE rfl fd146_1) (fun a hE => ?_)
      obtain ⟨x23_19, qx23_19, H⟩ := H
      refine t_val (v := .int .i64 x23_19) rfl rfl hE rfl (r_load hE rfl sc3 qx23_19) (fun a hE => ?_)
      refine t_val (v := .int .i64 (IntKind.wrap .i64 (x23_19 + 1))) rfl rfl hE rfl (r_bin hE rfl rfl g_int b_add) (fun a hE => ?_)
      obtain ⟨x25_20, qx25_20, H⟩ := H
      refine t_val (v := .pointer (some x25_20)) rfl rfl hE rfl (r_nilCheck hE (hx_eq rfl (congrArg Value.pointer qx25_20))) (fun a hE => ?_)
      refine t_val (v := .pointer (some ((x25_20).add 1))) rfl rfl hE rfl (r_fieldAddr hE rfl fd146_1) (fun a hE => ?_)
      obtain ⟨u_21, qu_21, H⟩ := H
      refine t_sth rfl rfl hE hR (r_store hE rfl rfl sz3 qu_21) (fun a w hE hR hh => ?_)
      replace H := M.at hh H; clear hh
      refine t_nil ?_
      refine hK_17 _ _ ?_
      refine w_seq_join (fun a w => ∃ (x4_22 : Int), Env (⟨44, []⟩ : Frm) a [(0, .pointer x0), (3, (x3_6 : Sl).v), (4, .int .u8 x4_22)] ∧ Rest w0 w ∧ (value_reader_str_j2 self1 x3_6 x4_22).wp w.heap Q) ?_ ?_
      · rintro a w ⟨x4_22, hE, hR, H⟩
        unfold value_reader_str_j2 at H
        refine t_region ?_
        refine t_val (v := (x3_6 : Sl).v) rfl rfl hE rfl (r_move hE rfl) (fun a hE => ?_)
        refine t_val (v := .int .u8 x4_22) rfl rfl hE rfl (r_move hE rfl) (fun a hE => ?_)
        obtain ⟨x33_25, qx33_25, H⟩ := H
        refine t_valh (v := (x33_25 : Sl).v) rfl rfl hE rfl hR (r_buildL (cells := #[.int .u8 x4_22]) hE rfl un35 sz5 zr5 rfl rfl qx33_25) (fun a w hE hR hh => ?_)
        replace H := M.at hh H; clear hh
        refine t_ex (fun x34_26 => (x34_26 : Sl).v) rfl rfl hR (M.unbind H) (fun Q H => ap_run hE rfl rfl ap35 H) (fun x34_26 a w ea hR H => ?_)
        have hE := Env.put_some hE rfl ea; clear ea
        refine t_val (v := (x34_26 : Sl).v) rfl rfl hE rfl (r_assign hE rfl) (fun a hE => ?_)
        refine t_nil ?_
        exact hY_8 x34_26 _ _ (hE.cut (.cons rfl (.cons rfl Subs.nil))) hR H
      · skip
        refine w_seq (fun K hK_27 => ?_)
        refine t_region ?_
        refine t_val (v := .int .u8 x11_13) rfl rfl hE rfl (r_move hE rfl) (fun a hE => ?_)
        refine t_val (v := .bool (x11_13 == 92)) rfl rfl hE rfl (r_bin hE rfl rfl g_int b_eql) (fun a hE => ?_)
        refine t_nil ?_
        refine hK_27 _ _ ?_
        refine w_cond (x11_13 == 92) hE rfl (fun hb => ?_) (fun hb => ?_)
        · replace H := M.ite_t hb H
          refine t_region ?_
          refine t_val (v := .pointer x0) rfl rfl hE rfl (r_move hE rfl) (fun a hE => ?_)
          refine t_callX hE hR cl_value_reader_escaped rfl (S_value_reader_escaped x0) H (fun _ _ hR HQ => Xu.ne rfl (Xu.ne rfl (hthr _ _ hR HQ))) (fun x30_28 a w ea hR H => ?_)
          have hE := Env.put_some hE rfl ea; clear ea
          refine t_val (v := .int .u8 x30_28) rfl rfl hE rfl (r_assign hE rfl) (fun a hE => ?_)
          refine t_nil ?_
          exact ⟨x30_28, hE.cut (.cons rfl (.cons rfl (.cons rfl Subs.nil))), hR, H⟩
        · replace H := M.ite_f hb H
          refine w_skip ?_
          exact ⟨x11_13, hE.cut (.cons rfl (.cons rfl (.cons rfl Subs.nil))), hR, H⟩
    · skip
      refine w_seq (fun K hK_29 => ?_)
      refine t_region ?_
      refine t_val (v := .int .u8 x11_13) rfl rfl hE rfl (r_move hE rfl) (fun a hE => ?_)
      refine t_val (v := .bool (decide (x11_13 < 32))) rfl rfl hE rfl (r_bin hE rfl rfl g_int b_lss) (fun a hE => ?_)
      refine t_val (v := .bool (decide (x11_13 < 32))) rfl rfl hE rfl (r_move hE rfl) (fun a hE => ?_)
      refine t_grp (n := (⟨44, []⟩ : Frm)) (w0 := w0) 3 (fun x17_30 : Bool => [(0, .pointer x0), (3, (x3_6 : Sl).v), (4, .int .u8 x11_13), (17, .bool x17_30)]) (M.unbind H) (fun Kr hKr H => ?_) ?_
      · rcases bool_em (decide (x11_13 < 32)) with hb | hb
        · replace H := M.ite_t hb H
          have hE := hE.reb 14 (decide (x11_13 < 32)) true hb rfl
          refine t_off rfl hE rfl rfl rfl (fun a ea => ?_)
          have hE := Env.put_some hE rfl ea; clear ea
          refine t_off rfl hE rfl rfl rfl (fun a ea => ?_)
          have hE := Env.put_some hE rfl ea; clear ea
          refine t_val rfl rfl hE rfl (r_pick_t hE rfl rfl) (fun a hE => ?_)
          refine t_nil ?_
          exact hKr _ _ _ (hE.cut (.cons rfl (.cons rfl (.cons rfl (.cons rfl Subs.nil))))) hR H
        · replace H := M.ite_f hb H
          have hE := hE.reb 14 (decide (x11_13 < 32)) false hb rfl
          refine t_on rfl hE rfl rfl rfl ?_
          refine t_val (v := .int .u8 x11_13) rfl rfl hE rfl (r_move hE rfl) (fun a hE => ?_)
          refine t_on rfl hE rfl rfl rfl ?_
          refine t_val (v := .bool (decide (x11_13 > 126))) rfl rfl hE rfl (r_bin hE rfl rfl g_int b_gtr) (fun a hE => ?_)
          refine t_val rfl rfl hE rfl (r_pick_f hE rfl rfl) (fun a hE => ?_)
          refine t_nil ?_
          exact hKr _ _ _ (hE.cut (.cons rfl (.cons rfl (.cons rfl (.cons rfl Subs.nil))))) hR H
      · intro x17_30 a w hE hR H
        refine t_nil ?_
        refine hK_29 _ _ ?_
        refine w_cond x17_30 hE rfl (fun hb => ?_) (fun hb => ?_)
        · replace H := M.ite_t hb H
          refine t_region ?_
          refine t_val (v := .pointer x0) rfl rfl hE rfl (r_move hE rfl) (fun a hE => ?_)
          refine t_callX hE hR cl_value_reader_fail rfl (S_value_reader_fail x0) H (fun _ _ hR HQ => Xu.ne rfl (Xu.ne rfl (hthr _ _ hR HQ))) (fun x19_31 a w ea hR H => ?_)
          have hE := Env.put_some hE rfl ea; clear ea
          refine t_nil ?_
          exact ⟨hE.cut (.cons rfl (.cons rfl (.cons rfl Subs.nil))), hR, H⟩
        · replace H := M.ite_f hb H
          refine w_skip ?_
          exact ⟨hE.cut (.cons rfl (.cons rfl (.cons rfl Subs.nil))), hR, H⟩
  · replace H := M.ite_f hb H
    refine w_exit ?_
    refine Xu.same ?_
    refine hK_3 _ _ ?_
    refine w_seq (fun K hK_32 => ?_)
    refine t_region ?_
    refine t_val (v := .pointer x0) rfl rfl hE rfl (r_move hE rfl) (fun a hE => ?_)
    obtain ⟨x36_33, qx36_33, H⟩ := H
    refine t_val (v := .pointer (some x36_33)) rfl rfl hE rfl (r_nilCheck hE (hx_eq rfl (congrArg Value.pointer qx36_33))) (fun a hE => ?_)
    refine t_val (v := .pointer (some ((x36_33).add 1))) rfl rfl hE rfl (r_fieldAddr hE rfl fd146_1) (fun a hE => ?_)
    obtain ⟨x38_34, qx38_34, H⟩ := H
    refine t_val (v := .int .i64 x38_34) rfl rfl hE rfl (r_load hE rfl sc3 qx38_34) (fun a hE => ?_)
    refine t_val (v := .int .i64 (IntKind.wrap .i64 (x38_34 + 1))) rfl rfl hE rfl (r_bin hE rfl rfl g_int b_add) (fun a hE => ?_)
    obtain ⟨x40_35, qx40_35, H⟩ := H
    refine t_val (v := .pointer (some x40_35)) rfl rfl hE rfl (r_nilCheck hE (hx_eq rfl (congrArg Value.pointer qx40_35))) (fun a hE => ?_)
    refine t_val (v := .pointer (some ((x40_35).add 1))) rfl rfl hE rfl (r_fieldAddr hE rfl fd146_1) (fun a hE => ?_)
    obtain ⟨u_36, qu_36, H⟩ := H
    refine t_sth rfl rfl hE hR (r_store hE rfl rfl sz3 qu_36) (fun a w hE hR hh => ?_)
    replace H := M.at hh H; clear hh
    refine t_nil ?_
    refine hK_32 _ _ ?_
    refine w_seq (fun K hK_37 => ?_)
    refine t_region ?_
    refine t_val (v := (x3_6 : Sl).v) rfl rfl hE rfl (r_move hE rfl) (fun a hE => ?_)
    obtain ⟨x43_38, qx43_38, H⟩ := H
    refine t_val (v := .string x43_38) rfl rfl hE rfl (b2s_run hE rfl un35 un9 un5 qx43_38) (fun a hE => ?_)
    refine t_val (v := .string x43_38) rfl rfl hE rfl (r_assign hE rfl) (fun a hE => ?_)
    refine t_nil ?_
    refine hK_37 _ _ ?_
    refine w_ret ?_
    exact hret _ _ _ x43_38 _ hE hR (res_run hE rfl (RV.tmp rfl RV.nil)) rfl H

def value_reader_element (x0 : Option Addr) (x1 : Int) : M (Value ⊕ (Array Value)) := do
  let x4_2 ← mkB ty_api_Value (#[.int .i64 0, .int .i64 0, .string ByteArray.empty, .slice none 0 0] : Array Value)
  let x7_4 ← nilP x0
  let x9_5 ← ldI .i64 ((x7_4).add 1)
  let x11_6 ← nilP x0
  stV ((x11_6).add 1) (.int .i64 (IntKind.wrap .i64 (x9_5 + 1)))
  thr (value_reader_must x0 (⟨#[91]⟩ : ByteArray)) fun x14_9 => do
    thr (value_reader_number x0) fun x17_11 => do
      let x5_12 ← mkB ty_api_Value (#[.int .i64 0, .int .i64 0, .string ByteArray.empty, .slice none 0 0] : Array Value)
      M.need ((#[.int .i64 x1, .int .i64 x17_11, .string ByteArray.empty, .slice none 0 0] : Array Value).size = 4)
      stG x5_12 (#[.int .i64 x1, .int .i64 x17_11, .string ByteArray.empty, .slice none 0 0] : Array Value)
      thr (value_reader_must x0 (⟨#[93]⟩ : ByteArray)) fun x20_15 => do
        let x21_17 ← ldG 4 x5_12
        M.need (x21_17.size = 4)
        stG x4_2 x21_17
        let r4_19 ← ldG 4 x4_2
        M.pure (.inr r4_19)
theorem S_value_reader_element (x0 : Option Addr) (x1 : Int) : SoundX Go.Proofs.Tryz.prog 175 #[.pointer x0, .int .i64 x1] (fun (r : Array Value) => .agg r) (value_reader_element x0 x1) := by
  refine sound_ofX [(0, .pointer x0), (1, .int .i64 x1)] Go.Proofs.Tryz.func175 rfl rfl (Nat.le_of_ble_eq_true rfl) (args_of ⟨rfl, rfl, trivial⟩) (fun w0 w Q R X a hret hthr hE hR H => ?_)
  unfold value_reader_element at H
  refine w_seq (fun K hK_1 => ?_)
  refine t_region ?_
  obtain ⟨x4_2, qx4_2, H⟩ := H
  refine t_valh (v := .pointer (some x4_2)) rfl rfl hE rfl hR (r_alloc zr24 qx4_2) (fun a w hE hR hh => ?_)
  replace H := M.at hh H; clear hh
  refine t_nil ?_
  refine hK_1 _ _ ?_
  refine w_seq (fun K hK_3 => ?_)
  refine t_region ?_
  refine t_val (v := .pointer x0) rfl rfl hE rfl (r_move hE rfl) (fun a hE => ?_)
  obtain ⟨x7_4, qx7_4, H⟩ := H
  refine t_val (v := .pointer (some x7_4)) rfl rfl hE rfl (r_nilCheck hE (hx_eq rfl (congrArg Value.pointer qx7_4))) (fun a hE => ?_)
  refine t_val (v := .pointer (some ((x7_4).add 1))) rfl rfl hE rfl (r_fieldAddr hE rfl fd146_1) (fun a hE => ?_)
  obtain ⟨x9_5, qx9_5, H⟩ := H
  refine t_val (v := .int .i64 x9_5) rfl rfl hE rfl (r_load hE rfl sc3 qx9_5) (fun a hE => ?_)
  refine t_val (v := .int .i64 (IntKind.wrap .i64 (x9_5 + 1))) rfl rfl hE rfl (r_bin hE rfl rfl g_int b_add) (fun a hE => ?_)
  obtain ⟨x11_6, qx11_6, H⟩ := H
  refine t_val (v := .pointer (some x11_6)) rfl rfl hE rfl (r_nilCheck hE (hx_eq rfl (congrArg Value.pointer qx11_6))) (fun a hE => ?_)
  refine t_val (v := .pointer (some ((x11_6).add 1))) rfl rfl hE rfl (r_fieldAddr hE rfl fd146_1) (fun a hE => ?_)
  obtain ⟨u_7, qu_7, H⟩ := H
  refine t_sth rfl rfl hE hR (r_store hE rfl rfl sz3 qu_7) (fun a w hE hR hh => ?_)
  replace H := M.at hh H; clear hh
  refine t_nil ?_
  refine hK_3 _ _ ?_
  refine w_seq (fun K hK_8 => ?_)
  refine t_region ?_
  refine t_val (v := .pointer x0) rfl rfl hE rfl (r_move hE rfl) (fun a hE => ?_)
  refine t_callX hE hR cl_value_reader_must rfl (S_value_reader_must x0 (⟨#[91]⟩ : ByteArray)) H (fun _ _ hR HQ => hthr _ _ hR HQ) (fun x14_9 a w ea hR H => ?_)
  have hE := Env.put_some hE rfl ea; clear ea
  refine t_nil ?_
  refine hK_8 _ _ ?_
  refine w_seq (fun K hK_10 => ?_)
  refine t_region ?_
  refine t_val (v := .int .i64 x1) rfl rfl hE rfl (r_move hE rfl) (fun a hE => ?_)
  refine t_val (v := .pointer x0) rfl rfl hE rfl (r_move hE rfl) (fun a hE => ?_)
  refine t_callX hE hR cl_value_reader_number rfl (S_value_reader_number x0) H (fun _ _ hR HQ => hthr _ _ hR HQ) (fun x17_11 a w ea hR H => ?_)
  have hE := Env.put_some hE rfl ea; clear ea
  refine t_val (v := .agg (#[.int .i64 x1, .int .i64 x17_11, .string ByteArray.empty, .slice none 0 0] : Array Value)) rfl rfl hE rfl (r_build hE rfl zr24 pl24 (by rfl)) (fun a hE => ?_)
  obtain ⟨x5_12, qx5_12, H⟩ := H
  refine t_valh (v := .pointer (some x5_12)) rfl rfl hE rfl hR (r_alloc zr24 qx5_12) (fun a w hE hR hh => ?_)
  replace H := M.at hh H; clear hh
  obtain ⟨qz, H⟩ := H
  obtain ⟨u_13, qu_13, H⟩ := H
  refine t_sth rfl rfl hE hR (r_storeG hE rfl rfl sz24 qz qu_13) (fun a w hE hR hh => ?_)
  replace H := M.at hh H; clear hh
  refine t_nil ?_
  refine hK_10 _ _ ?_
  refine w_seq (fun K hK_14 => ?_)
  refine t_region ?_
  refine t_val (v := .pointer x0) rfl rfl hE rfl (r_move hE rfl) (fun a hE => ?_)
  refine t_callX hE hR cl_value_reader_must rfl (S_value_reader_must x0 (⟨#[93]⟩ : ByteArray)) H (fun _ _ hR HQ => hthr _ _ hR HQ) (fun x20_15 a w ea hR H => ?_)
  have hE := Env.put_some hE rfl ea; clear ea
  refine t_nil ?_
  refine hK_14 _ _ ?_
  refine w_seq (fun K hK_16 => ?_)
  refine t_region ?_
  obtain ⟨x21_17, qx21_17, H⟩ := H
  refine t_val (v := .agg x21_17) rfl rfl hE rfl (r_loadG hE rfl ag24 qx21_17) (fun a hE => ?_)
  obtain ⟨qz, H⟩ := H
  obtain ⟨u_18, qu_18, H⟩ := H
  refine t_sth rfl rfl hE hR (r_storeG hE rfl rfl sz24 qz qu_18) (fun a w hE hR hh => ?_)
  replace H := M.at hh H; clear hh
  refine t_nil ?_
  refine hK_16 _ _ ?_
  refine w_ret ?_
  obtain ⟨r4_19, qr4_19, H⟩ := H
  exact hret _ _ _ r4_19 _ hE hR (res_run hE rfl (RV.cellG rfl ag24 qr4_19 RV.nil)) rfl H

def value_reader_value_j1 (c0_3 : Option Addr) (c1_4 : Int) (c4_5 : Addr) : M (Value ⊕ (Array Value)) := do
  let x11_7 ← value_reader_here c0_3
  let x18_10 ← M.ite (x11_7 == 45) (do
    M.pure true
    ) (do
    let x17_11 ← value_digit x11_7
    M.pure x17_11
    )
  M.ite x18_10 (do
    thr (value_reader_number c0_3) fun x20_13 => do
      let x21_14 ← value_Int x20_13
      M.need (x21_14.size = 4)
      stG c4_5 x21_14
      let r4_16 ← ldG 4 c4_5
      M.pure (.inr r4_16)
    ) (do
    M.ite (x11_7 == 39) (do
      thr (value_reader_str c0_3) fun x26_19 => do
        let x27_20 ← value_Str x26_19
        M.need (x27_20.size = 4)
        stG c4_5 x27_20
        let r4_22 ← ldG 4 c4_5
        M.pure (.inr r4_22)
      ) (do
      M.ite (x11_7 == 116) (do
        thr (value_reader_must c0_3 (⟨#[116, 114, 117, 101]⟩ : ByteArray)) fun x32_25 => do
          let x33_27 ← value_Bool true
          M.need (x33_27.size = 4)
          stG c4_5 x33_27
          let r4_29 ← ldG 4 c4_5
          M.pure (.inr r4_29)
        ) (do
        M.ite (x11_7 == 102) (do
          thr (value_reader_must c0_3 (⟨#[102, 97, 108, 115, 101]⟩ : ByteArray)) fun x38_32 => do
            let x39_34 ← value_Bool false
            M.need (x39_34.size = 4)
            stG c4_5 x39_34
            let r4_36 ← ldG 4 c4_5
            M.pure (.inr r4_36)
          ) (do
          M.ite (x11_7 == 118) (do
            thr (value_reader_element c0_3 6) fun x44_39 => do
              M.need (x44_39.size = 4)
              stG c4_5 x44_39
              let r4_41 ← ldG 4 c4_5
              M.pure (.inr r4_41)
            ) (do
            M.ite (x11_7 == 101) (do
              thr (value_reader_element c0_3 7) fun x49_44 => do
                M.need (x49_44.size = 4)
                stG c4_5 x49_44
                let r4_46 ← ldG 4 c4_5
                M.pure (.inr r4_46)
              ) (do
              M.ite (x11_7 == 91) (do
                thr (callFX Go.Proofs.Tryz.prog fn_value_reader_list #[.pointer c0_3, .int .i64 c1_4, .int .u8 93, .int .i64 1] (fun r : Sl => (r : Sl).v)) fun x55_49 => do
                  M.need ((#[.int .i64 4, .int .i64 0, .string ByteArray.empty, (x55_49 : Sl).v] : Array Value).size = 4)
                  stG c4_5 (#[.int .i64 4, .int .i64 0, .string ByteArray.empty, (x55_49 : Sl).v] : Array Value)
                  let r4_51 ← ldG 4 c4_5
                  M.pure (.inr r4_51)
                ) (do
                M.ite (x11_7 == 123) (do
                  thr (callFX Go.Proofs.Tryz.prog fn_value_reader_list #[.pointer c0_3, .int .i64 c1_4, .int .u8 125, .int .i64 2] (fun r : Sl => (r : Sl).v)) fun x62_54 => do
                    M.need ((#[.int .i64 5, .int .i64 0, .string ByteArray.empty, (x62_54 : Sl).v] : Array Value).size = 4)
                    stG c4_5 (#[.int .i64 5, .int .i64 0, .string ByteArray.empty, (x62_54 : Sl).v] : Array Value)
                    let r4_56 ← ldG 4 c4_5
                    M.pure (.inr r4_56)
                  ) (do
                  thr (value_reader_fail c0_3) fun x65_58 => do
                    M.need ((#[.int .i64 0, .int .i64 0, .string ByteArray.empty, .slice none 0 0] : Array Value).size = 4)
                    stG c4_5 (#[.int .i64 0, .int .i64 0, .string ByteArray.empty, .slice none 0 0] : Array Value)
                    let r4_61 ← ldG 4 c4_5
                    M.pure (.inr r4_61)
                  )
                )
              )
            )
          )
        )
      )
    )
def value_reader_value (x0 : Option Addr) (x1 : Int) : M (Value ⊕ (Array Value)) := do
  let x4_2 ← mkB ty_api_Value (#[.int .i64 0, .int .i64 0, .string ByteArray.empty, .slice none 0 0] : Array Value)
  M.ite (decide (x1 > 8)) (do
    thr (value_reader_fail x0) fun x9_63 => do
      value_reader_value_j1 x0 x1 x4_2
    ) (do
    value_reader_value_j1 x0 x1 x4_2
    )
theorem S_value_reader_value (x0 : Option Addr) (x1 : Int) : SoundX Go.Proofs.Tryz.prog 131 #[.pointer x0, .int .i64 x1] (fun (r : Array Value) => .agg r) (value_reader_value x0 x1) := by
  refine sound_ofX [(0, .pointer x0), (1, .int .i64 x1)] Go.Proofs.Tryz.func131 rfl rfl (Nat.le_of_ble_eq_true rfl) (args_of ⟨rfl, rfl, trivial⟩) (fun w0 w Q R X a hret hthr hE hR H => ?_)
  unfold value_reader_value at H
  refine w_seq (fun K hK_1 => ?_)
  refine t_region ?_
  obtain ⟨x4_2, qx4_2, H⟩ := H
  refine t_valh (v := .pointer (some x4_2)) rfl rfl hE rfl hR (r_alloc zr24 qx4_2) (fun a w hE hR hh => ?_)
  replace H := M.at hh H; clear hh
  refine t_nil ?_
  refine hK_1 _ _ ?_
  refine w_seq_join (fun a w => Env (⟨67, []⟩ : Frm) a [(0, .pointer x0), (1, .int .i64 x1), (4, .pointer (some x4_2))] ∧ Rest w0 w ∧ (value_reader_value_j1 x0 x1 x4_2).wp w.heap Q) ?_ ?_
  · rintro a w ⟨hE, hR, H⟩
    unfold value_reader_value_j1 at H
    refine w_seq (fun K hK_6 => ?_)
    refine t_region ?_
    refine t_val (v := .pointer x0) rfl rfl hE rfl (r_move hE rfl) (fun a hE => ?_)
    refine t_call hE hR cl_value_reader_here rfl (S_value_reader_here x0) (M.unbind H) (fun x11_7 a w ea hR H => ?_)
    have hE := Env.put_some hE rfl ea; clear ea
    refine t_val (v := .int .u8 x11_7) rfl rfl hE rfl (r_assign hE rfl) (fun a hE => ?_)
    refine t_nil ?_
    refine hK_6 _ _ ?_
    refine w_seq (fun K hK_8 => ?_)
    refine w_block ?_
    refine w_seq (fun K hK_9 => ?_)
    refine t_region ?_
    refine t_val (v := .int .u8 x11_7) rfl rfl hE rfl (r_move hE rfl) (fun a hE => ?_)
    refine t_val (v := .bool (x11_7 == 45)) rfl rfl hE rfl (r_bin hE rfl rfl g_int b_eql) (fun a hE => ?_)
    refine t_val (v := .bool (x11_7 == 45)) rfl rfl hE rfl (r_move hE rfl) (fun a hE => ?_)
    refine t_grp (n := (⟨67, []⟩ : Frm)) (w0 := w0) 3 (fun x18_10 : Bool => [(0, .pointer x0), (1, .int .i64 x1), (4, .pointer (some x4_2)), (5, .int .u8 x11_7), (18, .bool x18_10)]) (M.unbind H) (fun Kr hKr H => ?_) ?_
    · rcases bool_em (x11_7 == 45) with hb | hb
      · replace H := M.ite_t hb H
        have hE := hE.reb 15 (x11_7 == 45) true hb rfl
        refine t_off rfl hE rfl rfl rfl (fun a ea => ?_)
        have hE := Env.put_some hE rfl ea; clear ea
        refine t_off rfl hE rfl rfl rfl (fun a ea => ?_)
        have hE := Env.put_some hE rfl ea; clear ea
        refine t_val rfl rfl hE rfl (r_pick_t hE rfl rfl) (fun a hE => ?_)
        refine t_nil ?_
        exact hKr _ _ _ (hE.cut (.cons rfl (.cons rfl (.cons rfl (.cons rfl (.cons rfl Subs.nil)))))) hR H
      · replace H := M.ite_f hb H
        have hE := hE.reb 15 (x11_7 == 45) false hb rfl
        refine t_on rfl hE rfl rfl rfl ?_
        refine t_val (v := .int .u8 x11_7) rfl rfl hE rfl (r_move hE rfl) (fun a hE => ?_)
        refine t_on rfl hE rfl rfl rfl ?_
        refine t_call hE hR cl_value_digit rfl (S_value_digit x11_7) (M.unbind H) (fun x17_11 a w ea hR H => ?_)
        have hE := Env.put_some hE rfl ea; clear ea
        refine t_val rfl rfl hE rfl (r_pick_f hE rfl rfl) (fun a hE => ?_)
        refine t_nil ?_
        exact hKr _ _ _ (hE.cut (.cons rfl (.cons rfl (.cons rfl (.cons rfl (.cons rfl Subs.nil)))))) hR H
    · intro x18_10 a w hE hR H
      refine t_val (v := .bool x18_10) rfl rfl hE rfl (r_assign hE rfl) (fun a hE => ?_)
      refine t_nil ?_
      refine hK_9 _ _ ?_
      refine w_cond x18_10 hE rfl (fun hb => ?_) (fun hb => ?_)
      · replace H := M.ite_t hb H
        refine w_seq (fun K hK_12 => ?_)
        refine t_region ?_
        refine t_val (v := .pointer x0) rfl rfl hE rfl (r_move hE rfl) (fun a hE => ?_)
        refine t_callX hE hR cl_value_reader_number rfl (S_value_reader_number x0) H (fun _ _ hR HQ => Xu.ne rfl (hthr _ _ hR HQ)) (fun x20_13 a w ea hR H => ?_)
        have hE := Env.put_some hE rfl ea; clear ea
        refine t_call hE hR cl_value_Int rfl (S_value_Int x20_13) (M.unbind H) (fun x21_14 a w ea hR H => ?_)
        have hE := Env.put_some hE rfl ea; clear ea
        obtain ⟨qz, H⟩ := H
        obtain ⟨u_15, qu_15, H⟩ := H
        refine t_sth rfl rfl hE hR (r_storeG hE rfl rfl sz24 qz qu_15) (fun a w hE hR hh => ?_)
        replace H := M.at hh H; clear hh
        refine t_nil ?_
        refine hK_12 _ _ ?_
        refine w_ret ?_
        obtain ⟨r4_16, qr4_16, H⟩ := H
        exact hret _ _ _ r4_16 _ hE hR (res_run hE rfl (RV.cellG rfl ag24 qr4_16 RV.nil)) rfl H
      · replace H := M.ite_f hb H
        refine w_seq (fun K hK_17 => ?_)
        refine t_region ?_
        refine t_val (v := .int .u8 x11_7) rfl rfl hE rfl (r_move hE rfl) (fun a hE => ?_)
        refine t_val (v := .bool (x11_7 == 39)) rfl rfl hE rfl (r_bin hE rfl rfl g_int b_eql) (fun a hE => ?_)
        refine t_val (v := .bool (x11_7 == 39)) rfl rfl hE rfl (r_assign hE rfl) (fun a hE => ?_)
        refine t_nil ?_
        refine hK_17 _ _ ?_
        refine w_cond (x11_7 == 39) hE rfl (fun hb => ?_) (fun hb => ?_)
        · replace H := M.ite_t hb H
          refine w_seq (fun K hK_18 => ?_)
          refine t_region ?_
          refine t_val (v := .pointer x0) rfl rfl hE rfl (r_move hE rfl) (fun a hE => ?_)
          refine t_callX hE hR cl_value_reader_str rfl (S_value_reader_str x0) H (fun _ _ hR HQ => Xu.ne rfl (hthr _ _ hR HQ)) (fun x26_19 a w ea hR H => ?_)
          have hE := Env.put_some hE rfl ea; clear ea
          refine t_call hE hR cl_value_Str rfl (S_value_Str x26_19) (M.unbind H) (fun x27_20 a w ea hR H => ?_)
          have hE := Env.put_some hE rfl ea; clear ea
          obtain ⟨qz, H⟩ := H
          obtain ⟨u_21, qu_21, H⟩ := H
          refine t_sth rfl rfl hE hR (r_storeG hE rfl rfl sz24 qz qu_21) (fun a w hE hR hh => ?_)
          replace H := M.at hh H; clear hh
          refine t_nil ?_
          refine hK_18 _ _ ?_
          refine w_ret ?_
          obtain ⟨r4_22, qr4_22, H⟩ := H
          exact hret _ _ _ r4_22 _ hE hR (res_run hE rfl (RV.cellG rfl ag24 qr4_22 RV.nil)) rfl H
        · replace H := M.ite_f hb H
          refine w_seq (fun K hK_23 => ?_)
          refine t_region ?_
          refine t_val (v := .int .u8 x11_7) rfl rfl hE rfl (r_move hE rfl) (fun a hE => ?_)
          refine t_val (v := .bool (x11_7 == 116)) rfl rfl hE rfl (r_bin hE rfl rfl g_int b_eql) (fun a hE => ?_)
          refine t_val (v := .bool (x11_7 == 116)) rfl rfl hE rfl (r_assign hE rfl) (fun a hE => ?_)
          refine t_nil ?_
          refine hK_23 _ _ ?_
          refine w_cond (x11_7 == 116) hE rfl (fun hb => ?_) (fun hb => ?_)
          · replace H := M.ite_t hb H
            refine w_seq (fun K hK_24 => ?_)
            refine t_region ?_
            refine t_val (v := .pointer x0) rfl rfl hE rfl (r_move hE rfl) (fun a hE => ?_)
            refine t_callX hE hR cl_value_reader_must rfl (S_value_reader_must x0 (⟨#[116, 114, 117, 101]⟩ : ByteArray)) H (fun _ _ hR HQ => Xu.ne rfl (hthr _ _ hR HQ)) (fun x32_25 a w ea hR H => ?_)
            have hE := Env.put_some hE rfl ea; clear ea
            refine t_nil ?_
            refine hK_24 _ _ ?_
            refine w_seq (fun K hK_26 => ?_)
            refine t_region ?_
            refine t_call hE hR cl_value_Bool rfl (S_value_Bool true) (M.unbind H) (fun x33_27 a w ea hR H => ?_)
            have hE := Env.put_some hE rfl ea; clear ea
            obtain ⟨qz, H⟩ := H
            obtain ⟨u_28, qu_28, H⟩ := H
            refine t_sth rfl rfl hE hR (r_storeG hE rfl rfl sz24 qz qu_28) (fun a w hE hR hh => ?_)
            replace H := M.at hh H; clear hh
            refine t_nil ?_
            refine hK_26 _ _ ?_
            refine w_ret ?_
            obtain ⟨r4_29, qr4_29, H⟩ := H
            exact hret _ _ _ r4_29 _ hE hR (res_run hE rfl (RV.cellG rfl ag24 qr4_29 RV.nil)) rfl H
          · replace H := M.ite_f hb H
            refine w_seq (fun K hK_30 => ?_)
            refine t_region ?_
            refine t_val (v := .int .u8 x11_7) rfl rfl hE rfl (r_move hE rfl) (fun a hE => ?_)
            refine t_val (v := .bool (x11_7 == 102)) rfl rfl hE rfl (r_bin hE rfl rfl g_int b_eql) (fun a hE => ?_)
            refine t_val (v := .bool (x11_7 == 102)) rfl rfl hE rfl (r_assign hE rfl) (fun a hE => ?_)
            refine t_nil ?_
            refine hK_30 _ _ ?_
            refine w_cond (x11_7 == 102) hE rfl (fun hb => ?_) (fun hb => ?_)
            · replace H := M.ite_t hb H
              refine w_seq (fun K hK_31 => ?_)
              refine t_region ?_
              refine t_val (v := .pointer x0) rfl rfl hE rfl (r_move hE rfl) (fun a hE => ?_)
              refine t_callX hE hR cl_value_reader_must rfl (S_value_reader_must x0 (⟨#[102, 97, 108, 115, 101]⟩ : ByteArray)) H (fun _ _ hR HQ => Xu.ne rfl (hthr _ _ hR HQ)) (fun x38_32 a w ea hR H => ?_)
              have hE := Env.put_some hE rfl ea; clear ea
              refine t_nil ?_
              refine hK_31 _ _ ?_
              refine w_seq (fun K hK_33 => ?_)
              refine t_region ?_
              refine t_call hE hR cl_value_Bool rfl (S_value_Bool false) (M.unbind H) (fun x39_34 a w ea hR H => ?_)
              have hE := Env.put_some hE rfl ea; clear ea
              obtain ⟨qz, H⟩ := H
              obtain ⟨u_35, qu_35, H⟩ := H
              refine t_sth rfl rfl hE hR (r_storeG hE rfl rfl sz24 qz qu_35) (fun a w hE hR hh => ?_)
              replace H := M.at hh H; clear hh
              refine t_nil ?_
              refine hK_33 _ _ ?_
              refine w_ret ?_
              obtain ⟨r4_36, qr4_36, H⟩ := H
              exact hret _ _ _ r4_36 _ hE hR (res_run hE rfl (RV.cellG rfl ag24 qr4_36 RV.nil)) rfl H
            · replace H := M.ite_f hb H
              refine w_seq (fun K hK_37 => ?_)
              refine t_region ?_
              refine t_val (v := .int .u8 x11_7) rfl rfl hE rfl (r_move hE rfl) (fun a hE => ?_)
              refine t_val (v := .bool (x11_7 == 118)) rfl rfl hE rfl (r_bin hE rfl rfl g_int b_eql) (fun a hE => ?_)
              refine t_val (v := .bool (x11_7 == 118)) rfl rfl hE rfl (r_assign hE rfl) (fun a hE => ?_)
              refine t_nil ?_
              refine hK_37 _ _ ?_
              refine w_cond (x11_7 == 118) hE rfl (fun hb => ?_) (fun hb => ?_)
              · replace H := M.ite_t hb H
                refine w_seq (fun K hK_38 => ?_)
                refine t_region ?_
                refine t_val (v := .pointer x0) rfl rfl hE rfl (r_move hE rfl) (fun a hE => ?_)
                refine t_callX hE hR cl_value_reader_element rfl (S_value_reader_element x0 6) H (fun _ _ hR HQ => Xu.ne rfl (hthr _ _ hR HQ)) (fun x44_39 a w ea hR H => ?_)
                have hE := Env.put_some hE rfl ea; clear ea
                obtain ⟨qz, H⟩ := H
                obtain ⟨u_40, qu_40, H⟩ := H
                refine t_sth rfl rfl hE hR (r_storeG hE rfl rfl sz24 qz qu_40) (fun a w hE hR hh => ?_)
                replace H := M.at hh H; clear hh
                refine t_nil ?_
                refine hK_38 _ _ ?_
                refine w_ret ?_
                obtain ⟨r4_41, qr4_41, H⟩ := H
                exact hret _ _ _ r4_41 _ hE hR (res_run hE rfl (RV.cellG rfl ag24 qr4_41 RV.nil)) rfl H
              · replace H := M.ite_f hb H
                refine w_seq (fun K hK_42 => ?_)
                refine t_region ?_
                refine t_val (v := .int .u8 x11_7) rfl rfl hE rfl (r_move hE rfl) (fun a hE => ?_)
                refine t_val (v := .bool (x11_7 == 101)) rfl rfl hE rfl (r_bin hE rfl rfl g_int b_eql) (fun a hE => ?_)
                refine t_val (v := .bool (x11_7 == 101)) rfl rfl hE rfl (r_assign hE rfl) (fun a hE => ?_)
                refine t_nil ?_
                refine hK_42 _ _ ?_
                refine w_cond (x11_7 == 101) hE rfl (fun hb => ?_) (fun hb => ?_)
                · replace H := M.ite_t hb H
                  refine w_seq (fun K hK_43 => ?_)
                  refine t_region ?_
                  refine t_val (v := .pointer x0) rfl rfl hE rfl (r_move hE rfl) (fun a hE => ?_)
                  refine t_callX hE hR cl_value_reader_element rfl (S_value_reader_element x0 7) H (fun _ _ hR HQ => Xu.ne rfl (hthr _ _ hR HQ)) (fun x49_44 a w ea hR H => ?_)
                  have hE := Env.put_some hE rfl ea; clear ea
                  obtain ⟨qz, H⟩ := H
                  obtain ⟨u_45, qu_45, H⟩ := H
                  refine t_sth rfl rfl hE hR (r_storeG hE rfl rfl sz24 qz qu_45) (fun a w hE hR hh => ?_)
                  replace H := M.at hh H; clear hh
                  refine t_nil ?_
                  refine hK_43 _ _ ?_
                  refine w_ret ?_
                  obtain ⟨r4_46, qr4_46, H⟩ := H
                  exact hret _ _ _ r4_46 _ hE hR (res_run hE rfl (RV.cellG rfl ag24 qr4_46 RV.nil)) rfl H
                · replace H := M.ite_f hb H
                  refine w_seq (fun K hK_47 => ?_)
                  refine t_region ?_
                  refine t_val (v := .int .u8 x11_7) rfl rfl hE rfl (r_move hE rfl) (fun a hE => ?_)
                  refine t_val (v := .bool (x11_7 == 91)) rfl rfl hE rfl (r_bin hE rfl rfl g_int b_eql) (fun a hE => ?_)
                  refine t_val (v := .bool (x11_7 == 91)) rfl rfl hE rfl (r_assign hE rfl) (fun a hE => ?_)
                  refine t_nil ?_
                  refine hK_47 _ _ ?_
                  refine w_cond (x11_7 == 91) hE rfl (fun hb => ?_) (fun hb => ?_)
                  · replace H := M.ite_t hb H
                    refine w_seq (fun K hK_48 => ?_)
                    refine t_region ?_
                    refine t_val (v := .pointer x0) rfl rfl hE rfl (r_move hE rfl) (fun a hE => ?_)
                    refine t_val (v := .int .i64 x1) rfl rfl hE rfl (r_move hE rfl) (fun a hE => ?_)
                    refine t_callX hE hR cl_value_reader_list rfl (sound_callFX) H (fun _ _ hR HQ => Xu.ne rfl (hthr _ _ hR HQ)) (fun x55_49 a w ea hR H => ?_)
                    have hE := Env.put_some hE rfl ea; clear ea
                    refine t_val (v := .agg (#[.int .i64 4, .int .i64 0, .string ByteArray.empty, (x55_49 : Sl).v] : Array Value)) rfl rfl hE rfl (r_build hE rfl zr24 pl24 (by rfl)) (fun a hE => ?_)
                    obtain ⟨qz, H⟩ := H
                    obtain ⟨u_50, qu_50, H⟩ := H
                    refine t_sth rfl rfl hE hR (r_storeG hE rfl rfl sz24 qz qu_50) (fun a w hE hR hh => ?_)
                    replace H := M.at hh H; clear hh
                    refine t_nil ?_
                    refine hK_48 _ _ ?_
                    refine w_ret ?_
                    obtain ⟨r4_51, qr4_51, H⟩ := H
                    exact hret _ _ _ r4_51 _ hE hR (res_run hE rfl (RV.cellG rfl ag24 qr4_51 RV.nil)) rfl H
                  · replace H := M.ite_f hb H
                    refine w_seq (fun K hK_52 => ?_)
                    refine t_region ?_
                    refine t_val (v := .int .u8 x11_7) rfl rfl hE rfl (r_move hE rfl) (fun a hE => ?_)
                    refine t_val (v := .bool (x11_7 == 123)) rfl rfl hE rfl (r_bin hE rfl rfl g_int b_eql) (fun a hE => ?_)
                    refine t_val (v := .bool (x11_7 == 123)) rfl rfl hE rfl (r_assign hE rfl) (fun a hE => ?_)
                    refine t_nil ?_
                    refine hK_52 _ _ ?_
                    refine w_cond (x11_7 == 123) hE rfl (fun hb => ?_) (fun hb => ?_)
                    · replace H := M.ite_t hb H
                      refine w_seq (fun K hK_53 => ?_)
                      refine t_region ?_
                      refine t_val (v := .pointer x0) rfl rfl hE rfl (r_move hE rfl) (fun a hE => ?_)
                      refine t_val (v := .int .i64 x1) rfl rfl hE rfl (r_move hE rfl) (fun a hE => ?_)
                      refine t_callX hE hR cl_value_reader_list rfl (sound_callFX) H (fun _ _ hR HQ => Xu.ne rfl (hthr _ _ hR HQ)) (fun x62_54 a w ea hR H => ?_)
                      have hE := Env.put_some hE rfl ea; clear ea
                      refine t_val (v := .agg (#[.int .i64 5, .int .i64 0, .string ByteArray.empty, (x62_54 : Sl).v] : Array Value)) rfl rfl hE rfl (r_build hE rfl zr24 pl24 (by rfl)) (fun a hE => ?_)
                      obtain ⟨qz, H⟩ := H
                      obtain ⟨u_55, qu_55, H⟩ := H
                      refine t_sth rfl rfl hE hR (r_storeG hE rfl rfl sz24 qz qu_55) (fun a w hE hR hh => ?_)
                      replace H := M.at hh H; clear hh
                      refine t_nil ?_
                      refine hK_53 _ _ ?_
                      refine w_ret ?_
                      obtain ⟨r4_56, qr4_56, H⟩ := H
                      exact hret _ _ _ r4_56 _ hE hR (res_run hE rfl (RV.cellG rfl ag24 qr4_56 RV.nil)) rfl H
                    · replace H := M.ite_f hb H
                      refine w_skip ?_
                      refine hK_8 _ _ ?_
                      refine w_seq (fun K hK_57 => ?_)
                      refine t_region ?_
                      refine t_val (v := .pointer x0) rfl rfl hE rfl (r_move hE rfl) (fun a hE => ?_)
                      refine t_callX hE hR cl_value_reader_fail rfl (S_value_reader_fail x0) H (fun _ _ hR HQ => hthr _ _ hR HQ) (fun x65_58 a w ea hR H => ?_)
                      have hE := Env.put_some hE rfl ea; clear ea
                      refine t_nil ?_
                      refine hK_57 _ _ ?_
                      refine w_seq (fun K hK_59 => ?_)
                      refine t_region ?_
                      refine t_val (v := .agg (#[.int .i64 0, .int .i64 0, .string ByteArray.empty, .slice none 0 0] : Array Value)) rfl rfl hE rfl (r_build0 bd24) (fun a hE => ?_)
                      obtain ⟨qz, H⟩ := H
                      obtain ⟨u_60, qu_60, H⟩ := H
                      refine t_sth rfl rfl hE hR (r_storeG hE rfl rfl sz24 qz qu_60) (fun a w hE hR hh => ?_)
                      replace H := M.at hh H; clear hh
                      refine t_nil ?_
                      refine hK_59 _ _ ?_
                      refine w_ret ?_
                      obtain ⟨r4_61, qr4_61, H⟩ := H
                      exact hret _ _ _ r4_61 _ hE hR (res_run hE rfl (RV.cellG rfl ag24 qr4_61 RV.nil)) rfl H
  · skip
    refine w_seq (fun K hK_62 => ?_)
    refine t_region ?_
    refine t_val (v := .int .i64 x1) rfl rfl hE rfl (r_move hE rfl) (fun a hE => ?_)
    refine t_val (v := .bool (decide (x1 > 8))) rfl rfl hE rfl (r_bin hE rfl rfl g_int b_gtr) (fun a hE => ?_)
    refine t_nil ?_
    refine hK_62 _ _ ?_
    refine w_cond (decide (x1 > 8)) hE rfl (fun hb => ?_) (fun hb => ?_)
    · replace H := M.ite_t hb H
      refine t_region ?_
      refine t_val (v := .pointer x0) rfl rfl hE rfl (r_move hE rfl) (fun a hE => ?_)
      refine t_callX hE hR cl_value_reader_fail rfl (S_value_reader_fail x0) H (fun _ _ hR HQ => hthr _ _ hR HQ) (fun x9_63 a w ea hR H => ?_)
      have hE := Env.put_some hE rfl ea; clear ea
      refine t_nil ?_
      exact ⟨hE.cut (.cons rfl (.cons rfl (.cons rfl Subs.nil))), hR, H⟩
    · replace H := M.ite_f hb H
      refine w_skip ?_
      exact ⟨hE.cut (.cons rfl (.cons rfl (.cons rfl Subs.nil))), hR, H⟩

def num_told (x0 : Int) (x1 : Bool) : M (Int × Int) := do
  M.ite (!x1) (do
    M.pure (0, 7)
    ) (do
    M.pure (x0, 0)
    )
theorem S_num_told (x0 : Int) (x1 : Bool) : Sound Go.Proofs.Tryz.prog 141 #[.int .i64 x0, .bool x1] (fun (r : Int × Int) => .tuple #[.int .i64 r.1, .int .i64 r.2]) (num_told x0 x1) := by
  refine sound_of [(0, .int .i64 x0), (1, .bool x1)] Go.Proofs.Tryz.func141 rfl rfl (Nat.le_of_ble_eq_true rfl) (args_of ⟨rfl, rfl, trivial⟩) (fun w0 w Q R a hret hE hR H => ?_)
  unfold num_told at H
  refine w_seq (fun K hK_1 => ?_)
  refine t_region ?_
  refine t_val (v := .int .i64 0) rfl rfl hE rfl (r_assign hE rfl) (fun a hE => ?_)
  refine t_val (v := .int .i64 0) rfl rfl hE rfl (r_assign hE rfl) (fun a hE => ?_)
  refine t_nil ?_
  refine hK_1 _ _ ?_
  refine w_seq (fun K hK_2 => ?_)
  refine w_seq (fun K hK_3 => ?_)
  refine t_region ?_
  refine t_val (v := .bool x1) rfl rfl hE rfl (r_move hE rfl) (fun a hE => ?_)
  refine t_val (v := .bool (!x1)) rfl rfl hE rfl (r_un hE rfl u_not) (fun a hE => ?_)
  refine t_nil ?_
  refine hK_3 _ _ ?_
  refine w_cond (!x1) hE rfl (fun hb => ?_) (fun hb => ?_)
  · replace H := M.ite_t hb H
    refine w_seq (fun K hK_4 => ?_)
    refine t_region ?_
    refine t_val (v := .int .i64 0) rfl rfl hE rfl (r_assign hE rfl) (fun a hE => ?_)
    refine t_val (v := .int .i64 7) rfl rfl hE rfl (r_assign hE rfl) (fun a hE => ?_)
    refine t_nil ?_
    refine hK_4 _ _ ?_
    refine w_ret ?_
    exact hret _ _ _ (0, 7) _ hE hR (res_run hE rfl (RV.tmp rfl (RV.tmp rfl RV.nil))) rfl H
  · replace H := M.ite_f hb H
    refine w_skip ?_
    refine hK_2 _ _ ?_
    refine w_seq (fun K hK_5 => ?_)
    refine t_region ?_
    refine t_val (v := .int .i64 x0) rfl rfl hE rfl (r_move hE rfl) (fun a hE => ?_)
    refine t_val (v := .int .i64 x0) rfl rfl hE rfl (r_assign hE rfl) (fun a hE => ?_)
    refine t_val (v := .int .i64 0) rfl rfl hE rfl (r_assign hE rfl) (fun a hE => ?_)
    refine t_nil ?_
    refine hK_5 _ _ ?_
    refine w_ret ?_
    exact hret _ _ _ (x0, 0) _ hE hR (res_run hE rfl (RV.tmp rfl (RV.tmp rfl RV.nil))) rfl H

def slices_IndexFunc_slbyte_byte_l1 (c0_5 : Sl) (c1_6 : Value) (c7_7 : Int) (self1 : (Int) → M (Int)) : (Int) → M (Int) := fun s => match s with
  | x8_4 => do
    M.ite (decide (x8_4 < c7_7)) (do
      let x14_14 ← ixL c0_5 x8_4 1
      let x15_15 ← ldI .u8 x14_14
      let x16_16 ← callV Go.Proofs.Tryz.prog (fun r : Bool => .bool r) c1_6 [.int .u8 x15_15]
      M.ite x16_16 (do
        M.pure x8_4
        ) (do
        self1 (IntKind.wrap .i64 (x8_4 + 1))
        )
      ) (do
      M.pure (-1)
      )
def slices_IndexFunc_slbyte_byte (x0 : Sl) (x1 : Value) : M (Int) := do
  M.loop (slices_IndexFunc_slbyte_byte_l1 x0 x1 (x0.len : Int)) 0
theorem S_slices_IndexFunc_slbyte_byte (x0 : Sl) (x1 : Value) : Sound Go.Proofs.Tryz.prog 200 #[(x0 : Sl).v, x1] (fun (r : Int) => .int .i64 r) (slices_IndexFunc_slbyte_byte x0 x1) := by
  refine sound_of [(0, (x0 : Sl).v), (1, x1)] Go.Proofs.Tryz.func200 rfl rfl (Nat.le_of_ble_eq_true rfl) (args_of ⟨rfl, rfl, trivial⟩) (fun w0 w Q R a hret hE hR H => ?_)
  unfold slices_IndexFunc_slbyte_byte at H
  refine w_seq (fun K hK_1 => ?_)
  refine t_region ?_
  refine t_val (v := .int .i64 0) rfl rfl hE rfl (r_assign hE rfl) (fun a hE => ?_)
  refine t_nil ?_
  refine hK_1 _ _ ?_
  refine w_seq (fun K hK_2 => ?_)
  refine w_seq (fun K hK_3 => ?_)
  refine t_region ?_
  refine t_val (v := (x0 : Sl).v) rfl rfl hE rfl (r_move hE rfl) (fun a hE => ?_)
  refine t_val (v := .int .i64 (x0.len : Int)) rfl rfl hE rfl (r_len hE rfl 5 un35) (fun a hE => ?_)
  refine t_val (v := .int .i64 0) rfl rfl hE rfl (r_move hE rfl) (fun a hE => ?_)
  refine t_nil ?_
  refine hK_3 _ _ ?_
  refine w_block ?_
  refine l_loop (fun (s : Int) => (⟨19, []⟩ : Frm)) (fun (s : Int) => [(0, (x0 : Sl).v), (1, x1), (7, .int .i64 (x0.len : Int)), (8, .int .i64 s)]) H (hE.cut (.cons rfl (.cons rfl (.cons rfl (.cons rfl Subs.nil))))) hR (fun Y self1 hY_8 x8_4 a w hE hR H => ?_)
  replace hE : Env (⟨19, []⟩ : Frm) a [(0, (x0 : Sl).v), (1, x1), (7, .int .i64 (x0.len : Int)), (8, .int .i64 x8_4)] := hE
  replace H : (slices_IndexFunc_slbyte_byte_l1 x0 x1 (x0.len : Int) self1 x8_4).wp w.heap Q := H
  unfold slices_IndexFunc_slbyte_byte_l1 at H
  refine w_seq (fun K hK_9 => ?_)
  refine t_region ?_
  refine t_val (v := .bool (decide (x8_4 < (x0.len : Int)))) rfl rfl hE rfl (r_bin hE rfl rfl g_int b_lss) (fun a hE => ?_)
  refine t_nil ?_
  refine hK_9 _ _ ?_
  refine w_seq (fun K hK_10 => ?_)
  refine w_cond (decide (x8_4 < (x0.len : Int))) hE rfl (fun hb => ?_) (fun hb => ?_)
  · replace H := M.ite_t hb H
    refine w_skip ?_
    refine hK_10 _ _ ?_
    refine w_seq (fun K hK_11 => ?_)
    refine w_block ?_
    refine w_seq (fun K hK_12 => ?_)
    refine t_region ?_
    refine t_val (v := .int .i64 x8_4) rfl rfl hE rfl (r_move hE rfl) (fun a hE => ?_)
    refine t_val (v := .int .i64 x8_4) rfl rfl hE rfl (r_assign hE rfl) (fun a hE => ?_)
    refine t_nil ?_
    refine hK_12 _ _ ?_
    refine w_seq (fun K hK_13 => ?_)
    refine t_region ?_
    refine t_val (v := x1) rfl rfl hE rfl (r_move hE rfl) (fun a hE => ?_)
    refine t_val (v := (x0 : Sl).v) rfl rfl hE rfl (r_move hE rfl) (fun a hE => ?_)
    refine t_val (v := .int .i64 x8_4) rfl rfl hE rfl (r_move hE rfl) (fun a hE => ?_)
    obtain ⟨x14_14, qx14_14, H⟩ := H
    refine t_val (v := .pointer (some x14_14)) rfl rfl hE rfl (r_indexAddrL hE rfl rfl un35 sz5 qx14_14) (fun a hE => ?_)
    obtain ⟨x15_15, qx15_15, H⟩ := H
    refine t_val (v := .int .u8 x15_15) rfl rfl hE rfl (r_load hE rfl sc5 qx15_15) (fun a hE => ?_)
    refine t_callV hE hR rfl rfl (M.unbind H) (fun x16_16 a w ea hR H => ?_)
    have hE := Env.put_some hE rfl ea; clear ea
    refine t_nil ?_
    refine hK_13 _ _ ?_
    refine w_cond x16_16 hE rfl (fun hb => ?_) (fun hb => ?_)
    · replace H := M.ite_t hb H
      refine w_seq (fun K hK_17 => ?_)
      refine t_region ?_
      refine t_val (v := .int .i64 x8_4) rfl rfl hE rfl (r_move hE rfl) (fun a hE => ?_)
      refine t_val (v := .int .i64 x8_4) rfl rfl hE rfl (r_assign hE rfl) (fun a hE => ?_)
      refine t_nil ?_
      refine hK_17 _ _ ?_
      refine w_ret ?_
      exact hret _ _ _ x8_4 _ hE hR (res_run hE rfl (RV.tmp rfl RV.nil)) rfl H
    · replace H := M.ite_f hb H
      refine w_skip ?_
      refine hK_11 _ _ ?_
      refine t_region ?_
      refine t_val (v := .int .i64 (IntKind.wrap .i64 (x8_4 + 1))) rfl rfl hE rfl (r_bin hE rfl rfl g_int b_add) (fun a hE => ?_)
      refine t_val (v := .int .i64 (IntKind.wrap .i64 (x8_4 + 1))) rfl rfl hE rfl (r_move hE rfl) (fun a hE => ?_)
      refine t_nil ?_
      exact hY_8 (IntKind.wrap .i64 (x8_4 + 1)) _ _ (hE.cut (.cons rfl (.cons rfl (.cons rfl (.cons rfl Subs.nil))))) hR H
  · replace H := M.ite_f hb H
    refine w_exit ?_
    refine Xu.same ?_
    refine hK_2 _ _ ?_
    refine w_seq (fun K hK_18 => ?_)
    refine t_region ?_
    refine t_val (v := .int .i64 (-1)) rfl rfl hE rfl (r_assign hE rfl) (fun a hE => ?_)
    refine t_nil ?_
    refine hK_18 _ _ ?_
    refine w_ret ?_
    exact hret _ _ _ (-1) _ hE hR (res_run hE rfl (RV.tmp rfl RV.nil)) rfl H

def slices_ContainsFunc_slbyte_byte (x0 : Sl) (x1 : Value) : M (Bool) := do
  let x7_3 ← slices_IndexFunc_slbyte_byte x0 x1
  M.pure (decide (x7_3 ≥ 0))
theorem S_slices_ContainsFunc_slbyte_byte (x0 : Sl) (x1 : Value) : Sound Go.Proofs.Tryz.prog 159 #[(x0 : Sl).v, x1] (fun (r : Bool) => .bool r) (slices_ContainsFunc_slbyte_byte x0 x1) := by
  refine sound_of [(0, (x0 : Sl).v), (1, x1)] Go.Proofs.Tryz.func159 rfl rfl (Nat.le_of_ble_eq_true rfl) (args_of ⟨rfl, rfl, trivial⟩) (fun w0 w Q R a hret hE hR H => ?_)
  unfold slices_ContainsFunc_slbyte_byte at H
  refine w_seq (fun K hK_1 => ?_)
  refine t_region ?_
  refine t_val (v := .bool false) rfl rfl hE rfl (r_assign hE rfl) (fun a hE => ?_)
  refine t_nil ?_
  refine hK_1 _ _ ?_
  refine w_seq (fun K hK_2 => ?_)
  refine t_region ?_
  refine t_val (v := (x0 : Sl).v) rfl rfl hE rfl (r_move hE rfl) (fun a hE => ?_)
  refine t_val (v := x1) rfl rfl hE rfl (r_move hE rfl) (fun a hE => ?_)
  refine t_call hE hR cl_slices_IndexFunc_slbyte_byte rfl (S_slices_IndexFunc_slbyte_byte x0 x1) (M.unbind H) (fun x7_3 a w ea hR H => ?_)
  have hE := Env.put_some hE rfl ea; clear ea
  refine t_val (v := .bool (decide (x7_3 ≥ 0))) rfl rfl hE rfl (r_bin hE rfl rfl g_int b_geq) (fun a hE => ?_)
  refine t_val (v := .bool (decide (x7_3 ≥ 0))) rfl rfl hE rfl (r_assign hE rfl) (fun a hE => ?_)
  refine t_nil ?_
  refine hK_2 _ _ ?_
  refine w_ret ?_
  exact hret _ _ _ (decide (x7_3 ≥ 0)) _ hE hR (res_run hE rfl (RV.tmp rfl RV.nil)) rfl H

def internal_stringslite_Clone (x0 : ByteArray) : M (ByteArray) := do
  M.ite ((x0.size : Int) == 0) (do
    M.pure ByteArray.empty
    ) (do
    let x9_6 ← mkS ty_uint8 1 1 (#[.int .u8 0] : Array Value) (x0.size : Int) (x0.size : Int)
    let x12_8 ← cpSt x9_6 x0
    let x14_10 ← ixL x9_6 0 1
    let x17_11 ← uStr ty_uint8 (some x14_10) (x9_6.len : Int)
    M.pure x17_11
    )
theorem S_internal_stringslite_Clone (x0 : ByteArray) : Sound Go.Proofs.Tryz.prog 253 #[.string x0] (fun (r : ByteArray) => .string r) (internal_stringslite_Clone x0) := by
  refine sound_of [(0, .string x0)] Go.Proofs.Tryz.func253 rfl rfl (Nat.le_of_ble_eq_true rfl) (args_of ⟨rfl, trivial⟩) (fun w0 w Q R a hret hE hR H => ?_)
  unfold internal_stringslite_Clone at H
  refine w_seq (fun K hK_1 => ?_)
  refine t_region ?_
  refine t_val (v := .string ByteArray.empty) rfl rfl hE rfl (r_assign hE rfl) (fun a hE => ?_)
  refine t_nil ?_
  refine hK_1 _ _ ?_
  refine w_seq (fun K hK_2 => ?_)
  refine w_seq (fun K hK_3 => ?_)
  refine t_region ?_
  refine t_val (v := .string x0) rfl rfl hE rfl (r_move hE rfl) (fun a hE => ?_)
  refine t_val (v := .int .i64 (x0.size : Int)) rfl rfl hE rfl (r_lenS hE rfl un9) (fun a hE => ?_)
  refine t_val (v := .bool ((x0.size : Int) == 0)) rfl rfl hE rfl (r_bin hE rfl rfl g_int b_eql) (fun a hE => ?_)
  refine t_nil ?_
  refine hK_3 _ _ ?_
  refine w_cond ((x0.size : Int) == 0) hE rfl (fun hb => ?_) (fun hb => ?_)
  · replace H := M.ite_t hb H
    refine w_seq (fun K hK_4 => ?_)
    refine t_region ?_
    refine t_val (v := .string ByteArray.empty) rfl rfl hE rfl (r_assign hE rfl) (fun a hE => ?_)
    refine t_nil ?_
    refine hK_4 _ _ ?_
    refine w_ret ?_
    exact hret _ _ _ ByteArray.empty _ hE hR (res_run hE rfl (RV.tmp rfl RV.nil)) rfl H
  · replace H := M.ite_f hb H
    refine w_skip ?_
    refine hK_2 _ _ ?_
    refine w_seq (fun K hK_5 => ?_)
    refine t_region ?_
    refine t_val (v := .string x0) rfl rfl hE rfl (r_move hE rfl) (fun a hE => ?_)
    refine t_val (v := .int .i64 (x0.size : Int)) rfl rfl hE rfl (r_lenS hE rfl un9) (fun a hE => ?_)
    refine t_ex (fun x9_6 => (x9_6 : Sl).v) rfl rfl hR (M.unbind H) (fun Q H => mkS_run hE rfl rfl ap35 H) (fun x9_6 a w ea hR H => ?_)
    have hE := Env.put_some hE rfl ea; clear ea
    refine t_val (v := (x9_6 : Sl).v) rfl rfl hE rfl (r_assign hE rfl) (fun a hE => ?_)
    refine t_nil ?_
    refine hK_5 _ _ ?_
    refine w_seq (fun K hK_7 => ?_)
    refine t_region ?_
    refine t_val (v := (x9_6 : Sl).v) rfl rfl hE rfl (r_move hE rfl) (fun a hE => ?_)
    refine t_val (v := .string x0) rfl rfl hE rfl (r_move hE rfl) (fun a hE => ?_)
    refine t_ex (fun x12_8 => .int .i64 x12_8) rfl rfl hR (M.unbind H) (fun Q H => cpSt_run hE rfl rfl un35 sz5 H) (fun x12_8 a w ea hR H => ?_)
    have hE := Env.put_some hE rfl ea; clear ea
    refine t_nil ?_
    refine hK_7 _ _ ?_
    refine w_seq (fun K hK_9 => ?_)
    refine t_region ?_
    refine t_val (v := (x9_6 : Sl).v) rfl rfl hE rfl (r_move hE rfl) (fun a hE => ?_)
    obtain ⟨x14_10, qx14_10, H⟩ := H
    refine t_val (v := .pointer (some x14_10)) rfl rfl hE rfl (r_indexAddrL hE rfl rfl un35 sz5 qx14_10) (fun a hE => ?_)
    refine t_val (v := (x9_6 : Sl).v) rfl rfl hE rfl (r_move hE rfl) (fun a hE => ?_)
    refine t_val (v := .int .i64 (x9_6.len : Int)) rfl rfl hE rfl (r_len hE rfl 5 un35) (fun a hE => ?_)
    refine t_ex (fun x17_11 => .string x17_11) rfl rfl hR (M.unbind H) (fun Q H => uStr_run hE rfl rfl un165 co5 H) (fun x17_11 a w ea hR H => ?_)
    have hE := Env.put_some hE rfl ea; clear ea
    refine t_val (v := .string x17_11) rfl rfl hE rfl (r_assign hE rfl) (fun a hE => ?_)
    refine t_nil ?_
    refine hK_9 _ _ ?_
    refine w_ret ?_
    exact hret _ _ _ x17_11 _ hE hR (res_run hE rfl (RV.tmp rfl RV.nil)) rfl H

theorem tb233_1 : tabAt Go.Proofs.Tryz.f233 1 [[], [], [1], [], [0, 2, 3], [4], [5, 2, 0, 1, 2, 3, 4, 5]] [[], [], [1], [], [0, 2, 3], [4], [5]] [[], [], [1], [], [0, 1, 2, 3], [0, 1, 2, 3, 4], [0, 1, 2, 3, 4, 5]] = true := by kernel_rfl
def strconv_rangeError (x0 : ByteArray) (x1 : ByteArray) : M (Option Addr) := do
  let x8_3 ← ldV (⟨5, 0, none⟩ : Addr)
  let x7_4 ← internal_stringslite_Clone x1
  chk (fun h : Heap => (hcell h (⟨5, 0, none⟩ : Addr) = some (x8_3)))
  let x9_5 ← fillG [(0, 1), (1, 1), (2, 1)] (#[.string ByteArray.empty, .string ByteArray.empty, .nilIface] : Array Value) [(0, .string x0), (1, .string x7_4), (2, x8_3)]
  let x10_6 ← mkB ty_strconv_NumError x9_5
  M.pure (some x10_6)
theorem S_strconv_rangeError (x0 : ByteArray) (x1 : ByteArray) : Sound Go.Proofs.Tryz.prog 233 #[.string x0, .string x1] (fun (r : Option Addr) => .pointer r) (strconv_rangeError x0 x1) := by
  refine sound_of [(0, .string x0), (1, .string x1)] Go.Proofs.Tryz.func233 rfl rfl (Nat.le_of_ble_eq_true rfl) (args_of ⟨rfl, rfl, trivial⟩) (fun w0 w Q R a hret hE hR H => ?_)
  unfold strconv_rangeError at H
  refine w_seq (fun K hK_1 => ?_)
  refine t_region ?_
  refine t_val (v := .pointer (none : Option Addr)) rfl rfl hE rfl (r_assign hE rfl) (fun a hE => ?_)
  refine t_nil ?_
  refine hK_1 _ _ ?_
  refine w_seq (fun K hK_2 => ?_)
  obtain ⟨x8_3, qx8_3, H⟩ := H
  have hT := tab_of tb233_1 rfl rfl
  refine d_start (fun w : World => (fun h : Heap => (hcell h (⟨5, 0, none⟩ : Addr) = some (x8_3))) w.heap) [4, 5, 6] #[false, false, false, false, false, false, false] mo hR rfl rfl (fun w' e => by rw [e]; exact qx8_3) (fun w hh hR hs => ?_)
  replace H := M.at hh H; clear hh
  refine d_pureg (i := 0) (v := .string x0) #[true, false, false, false, false, false, false] rfl rfl hT (by kernel_rfl) hE rfl (wanted_none rfl) (fun w => r_move hE rfl) (fun a hE => ?_)
  refine d_pureg (i := 1) (v := .string x1) #[true, true, false, false, false, false, false] rfl rfl hT (by kernel_rfl) hE rfl (wanted_none rfl) (fun w => r_move hE rfl) (fun a hE => ?_)
  refine d_read (i := 3) (v := x8_3) #[true, true, false, true, false, false, false] rfl rfl hT (by kernel_rfl) hE rfl (wanted_none rfl) hs (fun w s => r_load hE rfl sc111 s) (fun a hE => ?_)
  refine d_call (i := 2) #[true, true, true, true, false, false, false] rfl rfl rfl hT (by kernel_rfl) rfl hE hR (wanted_none rfl) cl_internal_stringslite_Clone rfl (S_internal_stringslite_Clone x1) (M.unbind H) (fun r h H w' e => by obtain ⟨_, sA, H⟩ := H; rw [e]; exact sA) (fun x7_4 a w ea hR H hs => ?_)
  obtain ⟨_, sA, H⟩ := H; clear sA
  have hE := Env.put_some hE rfl ea; clear ea
  obtain ⟨x9_5, qx9_5, H⟩ := H
  refine d_pureg (i := 4) (v := .agg x9_5) #[true, true, true, true, true, false, false] rfl rfl hT (by kernel_rfl) hE rfl (wanted_none rfl) (fun w => r_build hE rfl zr249 pl249 qx9_5) (fun a hE => ?_)
  obtain ⟨x10_6, qx10_6, H⟩ := H
  refine d_lasth (i := 5) (v := .pointer (some x10_6)) #[true, true, true, true, true, true, false] rfl rfl hT (by kernel_rfl) rfl hE hR rfl (wanted_none rfl) (r_box hE rfl qx10_6)  (fun a w hE hR hh => ?_)
  replace H := M.at hh H; clear hh
  refine d_pureg (i := 6) (v := .pointer (some x10_6)) #[true, true, true, true, true, true, true] rfl rfl hT (by kernel_rfl) hE rfl (wanted_none rfl) (fun w => r_assign hE rfl) (fun a hE => ?_)
  refine d_done hT (by kernel_rfl) ?_
  refine hK_2 _ _ ?_
  refine w_ret ?_
  exact hret _ _ _ (some x10_6) _ hE hR (res_run hE rfl (RV.tmp rfl RV.nil)) rfl H

end Gx
