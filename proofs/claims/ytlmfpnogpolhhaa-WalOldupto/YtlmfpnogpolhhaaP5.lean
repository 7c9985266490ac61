/- Printed by program: Go functions as Lean programs, each tied to its code. No condition. -/
import Derived.Test.YtlmfpnogpolhhaaP0
import Derived.Test.YtlmfpnogpolhhaaP1
import Derived.Test.YtlmfpnogpolhhaaP2
import Derived.Test.YtlmfpnogpolhhaaP3
import Derived.Test.YtlmfpnogpolhhaaP4
set_option linter.unusedVariables false
set_option linter.unusedSimpArgs false
namespace Gx
open Go
set_option linter.unusedVariables false
set_option maxRecDepth 100000
/-- ramble/rambleref06.Same -/
theorem tb15_6 : tabAt Go.Proofs.Try.f15 6 [[], [], [0, 1], [2], [3], [4], [], [], [6, 7], [8], [9, 4], [10], [5, 11]] [[], [], [0, 1], [2], [3], [4], [], [], [6, 7], [8], [9], [10], [5, 11]] [[], [], [0, 1], [0, 1, 2], [0, 1, 2, 3], [0, 1, 2, 3, 4], [], [], [6, 7], [6, 7, 8], [0, 1, 2, 3, 4, 6, 7, 8, 9], [0, 1, 2, 3, 4, 6, 7, 8, 9, 10], [0, 1, 2, 3, 4, 5, 6, 7, 8, 9, 10, 11]] = true := by kernel_rfl
def rambleref06_Same_l1 (c0_8 : Sl) (c1_9 : Sl) (self1 : (Int) → M (Bool)) : (Int) → M (Bool) := fun s => match s with
  | x5_7 => do
    M.ite (decide (x5_7 < (c0_8.len : Int))) (do
      let x19_15 ← ixL c0_8 x5_7 1
      let x25_16 ← ixL c1_9 x5_7 1
      let x20_17 ← ldL x19_15
      let x26_18 ← ldL x25_16
      let x21_19 ← rambleref06_commit x20_17
      chk (fun h : Heap => (hcell h x19_15 = some ((x20_17 : Sl).v)) ∧ (hcell h x25_16 = some ((x26_18 : Sl).v)))
      let y_31 ← do
        M.both (do
          let x22_23 ← b2s x21_19
          let x27_24 ← rambleref06_commit x26_18
          let x28_25 ← b2s x27_24
          M.pure (x22_23, x27_24, x28_25, !(sEq x22_23 x28_25))
          ) (do
          let x27_26 ← rambleref06_commit x26_18
          chk (fun h : Heap => (hcell h x19_15 = some ((x20_17 : Sl).v)) ∧ (hcell h x25_16 = some ((x26_18 : Sl).v)))
          M.both (do
            let x22_27 ← b2s x21_19
            let x28_28 ← b2s x27_26
            M.pure (x22_27, x27_26, x28_28, !(sEq x22_27 x28_28))
            ) (do
            let x28_29 ← b2s x27_26
            let x22_30 ← b2s x21_19
            M.pure (x22_30, x27_26, x28_29, !(sEq x22_30 x28_29))
            )
          )
      M.ite y_31.2.2.2 (do
        M.pure false
        ) (do
        self1 (IntKind.wrap .i64 (x5_7 + 1))
        )
      ) (do
      M.pure true
      )
def rambleref06_Same (x0 : Sl) (x1 : Sl) : M (Bool) := do
  M.ite ((x0.len : Int) != (x1.len : Int)) (do
    M.pure false
    ) (do
    M.loop (rambleref06_Same_l1 x0 x1) 0
    )
theorem S_rambleref06_Same (x0 : Sl) (x1 : Sl) : Sound Go.Proofs.Try.prog 15 #[(x0 : Sl).v, (x1 : Sl).v] (fun (r : Bool) => .bool r) (rambleref06_Same x0 x1) := by
  refine sound_of [(0, (x0 : Sl).v), (1, (x1 : Sl).v)] Go.Proofs.Try.func15 rfl rfl (Nat.le_of_ble_eq_true rfl) (args_of ⟨rfl, rfl, trivial⟩) (fun w0 w Q R a hret hE hR H => ?_)
  unfold rambleref06_Same at H
  refine w_seq (fun K hK_1 => ?_)
  refine t_region ?_
  refine t_val (v := .bool false) rfl rfl hE rfl (r_assign hE rfl) (fun a hE => ?_)
  refine t_nil ?_
  refine hK_1 _ _ ?_
  refine w_seq (fun K hK_2 => ?_)
  refine w_seq (fun K hK_3 => ?_)
  refine t_region ?_
  refine t_val (v := (x0 : Sl).v) rfl rfl hE rfl (r_move hE rfl) (fun a hE => ?_)
  refine t_val (v := .int .i64 (x0.len : Int)) rfl rfl hE rfl (r_len hE rfl 32 un22) (fun a hE => ?_)
  refine t_val (v := (x1 : Sl).v) rfl rfl hE rfl (r_move hE rfl) (fun a hE => ?_)
  refine t_val (v := .int .i64 (x1.len : Int)) rfl rfl hE rfl (r_len hE rfl 32 un22) (fun a hE => ?_)
  refine t_val (v := .bool ((x0.len : Int) != (x1.len : Int))) rfl rfl hE rfl (r_bin hE rfl rfl g_int b_neq) (fun a hE => ?_)
  refine t_nil ?_
  refine hK_3 _ _ ?_
  refine w_cond ((x0.len : Int) != (x1.len : Int)) hE rfl (fun hb => ?_) (fun hb => ?_)
  · replace H := M.ite_t hb H
    refine w_seq (fun K hK_4 => ?_)
    refine t_region ?_
    refine t_val (v := .bool false) rfl rfl hE rfl (r_assign hE rfl) (fun a hE => ?_)
    refine t_nil ?_
    refine hK_4 _ _ ?_
    refine w_ret ?_
    exact hret _ _ _ false _ hE hR (res_run hE rfl (RV.tmp rfl RV.nil)) rfl H
  · replace H := M.ite_f hb H
    refine w_skip ?_
    refine hK_2 _ _ ?_
    refine w_seq (fun K hK_5 => ?_)
    refine w_seq (fun K hK_6 => ?_)
    refine t_region ?_
    refine t_val (v := .int .i64 0) rfl rfl hE rfl (r_assign hE rfl) (fun a hE => ?_)
    refine t_nil ?_
    refine hK_6 _ _ ?_
    refine w_block ?_
    refine l_loop (fun (s : Int) => (⟨30, []⟩ : Frm)) (fun (s : Int) => [(0, (x0 : Sl).v), (1, (x1 : Sl).v), (5, .int .i64 s)]) H (hE.cut (.cons rfl (.cons rfl (.cons rfl Subs.nil)))) hR (fun Y self1 hY_10 x5_7 a w hE hR H => ?_)
    replace hE : Env (⟨30, []⟩ : Frm) a [(0, (x0 : Sl).v), (1, (x1 : Sl).v), (5, .int .i64 x5_7)] := hE
    replace H : (rambleref06_Same_l1 x0 x1 self1 x5_7).wp w.heap Q := H
    unfold rambleref06_Same_l1 at H
    refine w_seq (fun K hK_11 => ?_)
    refine w_seq (fun K hK_12 => ?_)
    refine t_region ?_
    refine t_val (v := .int .i64 x5_7) rfl rfl hE rfl (r_move hE rfl) (fun a hE => ?_)
    refine t_val (v := (x0 : Sl).v) rfl rfl hE rfl (r_move hE rfl) (fun a hE => ?_)
    refine t_val (v := .int .i64 (x0.len : Int)) rfl rfl hE rfl (r_len hE rfl 32 un22) (fun a hE => ?_)
    refine t_val (v := .bool (decide (x5_7 < (x0.len : Int)))) rfl rfl hE rfl (r_bin hE rfl rfl g_int b_lss) (fun a hE => ?_)
    refine t_nil ?_
    refine hK_12 _ _ ?_
    refine w_cond (decide (x5_7 < (x0.len : Int))) hE rfl (fun hb => ?_) (fun hb => ?_)
    · replace H := M.ite_t hb H
      refine w_skip ?_
      refine hK_11 _ _ ?_
      refine w_seq (fun K hK_13 => ?_)
      refine w_block ?_
      refine w_seq (fun K hK_14 => ?_)
      obtain ⟨x19_15, qx19_15, H⟩ := H
      obtain ⟨x25_16, qx25_16, H⟩ := H
      obtain ⟨x20_17, qx20_17, H⟩ := H
      obtain ⟨x26_18, qx26_18, H⟩ := H
      have hT := tab_of tb15_6 rfl rfl
      refine d_start (fun w : World => (fun h : Heap => (hcell h x19_15 = some ((x20_17 : Sl).v)) ∧ (hcell h x25_16 = some ((x26_18 : Sl).v))) w.heap) [10, 11, 12] #[false, false, false, false, false, false, false, false, false, false, false, false, false] mo hR rfl rfl (fun w' e => by rw [e]; exact ⟨qx20_17, qx26_18⟩) (fun w hh hR hs => ?_)
      replace H := M.at hh H; clear hh
      refine d_pureg (i := 0) (v := (x0 : Sl).v) #[true, false, false, false, false, false, false, false, false, false, false, false, false] rfl rfl hT (by kernel_rfl) hE rfl (wanted_none rfl) (fun w => r_move hE rfl) (fun a hE => ?_)
      refine d_pureg (i := 1) (v := .int .i64 x5_7) #[true, true, false, false, false, false, false, false, false, false, false, false, false] rfl rfl hT (by kernel_rfl) hE rfl (wanted_none rfl) (fun w => r_move hE rfl) (fun a hE => ?_)
      refine d_pureg (i := 2) (v := .pointer (some x19_15)) #[true, true, true, false, false, false, false, false, false, false, false, false, false] rfl rfl hT (by kernel_rfl) hE rfl (wanted_none rfl) (fun w => r_indexAddrL hE rfl rfl un22 sz32 qx19_15) (fun a hE => ?_)
      refine d_pureg (i := 6) (v := (x1 : Sl).v) #[true, true, true, false, false, false, true, false, false, false, false, false, false] rfl rfl hT (by kernel_rfl) hE rfl (wanted_none rfl) (fun w => r_move hE rfl) (fun a hE => ?_)
      refine d_pureg (i := 7) (v := .int .i64 x5_7) #[true, true, true, false, false, false, true, true, false, false, false, false, false] rfl rfl hT (by kernel_rfl) hE rfl (wanted_none rfl) (fun w => r_move hE rfl) (fun a hE => ?_)
      refine d_pureg (i := 8) (v := .pointer (some x25_16)) #[true, true, true, false, false, false, true, true, true, false, false, false, false] rfl rfl hT (by kernel_rfl) hE rfl (wanted_none rfl) (fun w => r_indexAddrL hE rfl rfl un22 sz32 qx25_16) (fun a hE => ?_)
      refine d_read (i := 3) (v := (x20_17 : Sl).v) #[true, true, true, true, false, false, true, true, true, false, false, false, false] rfl rfl hT (by kernel_rfl) hE rfl (wanted_none rfl) hs (fun w s => r_load hE rfl sc32 s.1) (fun a hE => ?_)
      refine d_read (i := 9) (v := (x26_18 : Sl).v) #[true, true, true, true, false, false, true, true, true, true, false, false, false] rfl rfl hT (by kernel_rfl) hE rfl (wanted_none rfl) hs (fun w s => r_load hE rfl sc32 s.2) (fun a hE => ?_)
      refine d_call (i := 4) #[true, true, true, true, true, false, true, true, true, true, false, false, false] rfl rfl rfl hT (by kernel_rfl) rfl hE hR (wanted_none rfl) cl_rambleref06_commit rfl (S_rambleref06_commit x20_17) (M.unbind H) (fun r h H w' e => by obtain ⟨_, sA, H⟩ := H; rw [e]; exact sA) (fun x21_19 a w ea hR H hs => ?_)
      obtain ⟨_, sA, H⟩ := H; clear sA
      have hE := Env.put_some hE rfl ea; clear ea
      refine d_join (n := (⟨30, []⟩ : Frm)) (w0 := w0) (fun y_31 : ByteArray × Sl × ByteArray × Bool => [(0, (x0 : Sl).v), (1, (x1 : Sl).v), (5, .int .i64 x5_7), (11, .int .i64 x5_7), (12, (x0 : Sl).v), (13, .int .i64 (x0.len : Int)), (14, .bool (decide (x5_7 < (x0.len : Int)))), (17, (x0 : Sl).v), (18, .int .i64 x5_7), (19, .pointer (some x19_15)), (23, (x1 : Sl).v), (24, .int .i64 x5_7), (25, .pointer (some x25_16)), (20, (x20_17 : Sl).v), (26, (x26_18 : Sl).v), (21, (x21_19 : Sl).v), (22, .string y_31.1), (27, (y_31.2.1 : Sl).v), (28, .string y_31.2.2.1), (29, .bool y_31.2.2.2)]) 0 #[true, true, true, true, true, true, true, true, true, true, true, true, true] (M.unbind H) ?_ ?_
      · intro y_31 a w hE hR H
        refine d_done hT (by kernel_rfl) ?_
        refine hK_14 _ _ ?_
        refine w_cond y_31.2.2.2 hE rfl (fun hb => ?_) (fun hb => ?_)
        · replace H := M.ite_t hb H
          refine w_seq (fun K hK_32 => ?_)
          refine t_region ?_
          refine t_val (v := .bool false) rfl rfl hE rfl (r_assign hE rfl) (fun a hE => ?_)
          refine t_nil ?_
          refine hK_32 _ _ ?_
          refine w_ret ?_
          exact hret _ _ _ false _ hE hR (res_run hE rfl (RV.tmp rfl RV.nil)) rfl H
        · replace H := M.ite_f hb H
          refine w_skip ?_
          refine hK_13 _ _ ?_
          refine t_region ?_
          refine t_val (v := .int .i64 x5_7) rfl rfl hE rfl (r_move hE rfl) (fun a hE => ?_)
          refine t_val (v := .int .i64 (IntKind.wrap .i64 (x5_7 + 1))) rfl rfl hE rfl (r_bin hE rfl rfl g_int b_add) (fun a hE => ?_)
          refine t_val (v := .int .i64 (IntKind.wrap .i64 (x5_7 + 1))) rfl rfl hE rfl (r_assign hE rfl) (fun a hE => ?_)
          refine t_nil ?_
          exact hY_10 (IntKind.wrap .i64 (x5_7 + 1)) _ _ (hE.cut (.cons rfl (.cons rfl (.cons rfl Subs.nil)))) hR H
      · intro hj H
        refine d_pick [5, 10] hT (by kernel_rfl) rfl (fun i hi => ?_)
        simp only [List.mem_cons, List.not_mem_nil, or_false] at hi
        rcases hi with rfl | rfl
        · replace H := H.1
          obtain ⟨x22_23, qx22_23, H⟩ := H
          refine p_val (S := fun w : World => (fun h : Heap => (hcell h x19_15 = some ((x20_17 : Sl).v)) ∧ (hcell h x25_16 = some ((x26_18 : Sl).v))) w.heap) (i := 5) (v := .string x22_23) #[true, true, true, true, true, true, true, true, true, true, false, false, false] rfl rfl (by kernel_rfl) hE hR rfl (wanted_none rfl) (b2s_run hE rfl un30 un9 un5 qx22_23) ⟨rfl, rfl⟩ (fun w' e => by rw [e]; exact hs) (fun a w hE hR hh hs => ?_)
          replace H := M.at hh H; clear hh
          refine d_calll (i := 10) #[true, true, true, true, true, true, true, true, true, true, true, false, false] rfl rfl rfl hT (by kernel_rfl) rfl hE hR (wanted_none rfl) cl_rambleref06_commit rfl (S_rambleref06_commit x26_18) (M.unbind H) (fun x27_24 a w ea hR H => ?_)
          have hE := Env.put_some hE rfl ea; clear ea
          obtain ⟨x28_25, qx28_25, H⟩ := H
          refine d_last (i := 11) (v := .string x28_25) #[true, true, true, true, true, true, true, true, true, true, true, true, false] rfl rfl hT (by kernel_rfl) rfl hE hR rfl (wanted_none rfl) (b2s_run hE rfl un30 un9 un5 qx28_25) ⟨rfl, rfl⟩ (fun a w hE hR hh => ?_)
          replace H := M.at hh H; clear hh
          refine d_pureg (i := 12) (v := .bool (!(sEq x22_23 x28_25))) #[true, true, true, true, true, true, true, true, true, true, true, true, true] rfl rfl hT (by kernel_rfl) hE rfl (wanted_none rfl) (fun w => r_bin hE rfl rfl g_str b_neqS) (fun a hE => ?_)
          exact hj _ _ _ (hE.cut (.cons rfl (.cons rfl (.cons rfl (.cons rfl (.cons rfl (.cons rfl (.cons rfl (.cons rfl (.cons rfl (.cons rfl (.cons rfl (.cons rfl (.cons rfl (.cons rfl (.cons rfl (.cons rfl (.cons rfl (.cons rfl (.cons rfl (.cons rfl Subs.nil))))))))))))))))))))) hR H
        · replace H := H.2
          refine p_call (S := fun w : World => (fun h : Heap => (hcell h x19_15 = some ((x20_17 : Sl).v)) ∧ (hcell h x25_16 = some ((x26_18 : Sl).v))) w.heap) (i := 10) #[true, true, true, true, true, false, true, true, true, true, true, false, false] rfl rfl rfl (by kernel_rfl) hE hR (wanted_none rfl) cl_rambleref06_commit rfl (S_rambleref06_commit x26_18) (M.unbind H) (fun r h H w' e => by obtain ⟨_, sA, H⟩ := H; rw [e]; exact sA) (fun x27_26 a w ea hR H hs => ?_)
          obtain ⟨_, sA, H⟩ := H; clear sA
          have hE := Env.put_some hE rfl ea; clear ea
          refine d_pick [5, 11] hT (by kernel_rfl) rfl (fun i hi => ?_)
          simp only [List.mem_cons, List.not_mem_nil, or_false] at hi
          rcases hi with rfl | rfl
          · replace H := H.1
            obtain ⟨x22_27, qx22_27, H⟩ := H
            refine p_val (S := fun w : World => (fun h : Heap => (hcell h x19_15 = some ((x20_17 : Sl).v)) ∧ (hcell h x25_16 = some ((x26_18 : Sl).v))) w.heap) (i := 5) (v := .string x22_27) #[true, true, true, true, true, true, true, true, true, true, true, false, false] rfl rfl (by kernel_rfl) hE hR rfl (wanted_none rfl) (b2s_run hE rfl un30 un9 un5 qx22_27) ⟨rfl, rfl⟩ (fun w' e => by rw [e]; exact hs) (fun a w hE hR hh hs => ?_)
            replace H := M.at hh H; clear hh
            obtain ⟨x28_28, qx28_28, H⟩ := H
            refine d_last (i := 11) (v := .string x28_28) #[true, true, true, true, true, true, true, true, true, true, true, true, false] rfl rfl hT (by kernel_rfl) rfl hE hR rfl (wanted_none rfl) (b2s_run hE rfl un30 un9 un5 qx28_28) ⟨rfl, rfl⟩ (fun a w hE hR hh => ?_)
            replace H := M.at hh H; clear hh
            refine d_pureg (i := 12) (v := .bool (!(sEq x22_27 x28_28))) #[true, true, true, true, true, true, true, true, true, true, true, true, true] rfl rfl hT (by kernel_rfl) hE rfl (wanted_none rfl) (fun w => r_bin hE rfl rfl g_str b_neqS) (fun a hE => ?_)
            exact hj _ _ _ (hE.cut (.cons rfl (.cons rfl (.cons rfl (.cons rfl (.cons rfl (.cons rfl (.cons rfl (.cons rfl (.cons rfl (.cons rfl (.cons rfl (.cons rfl (.cons rfl (.cons rfl (.cons rfl (.cons rfl (.cons rfl (.cons rfl (.cons rfl (.cons rfl Subs.nil))))))))))))))))))))) hR H
          · replace H := H.2
            obtain ⟨x28_29, qx28_29, H⟩ := H
            refine p_val (S := fun w : World => (fun h : Heap => (hcell h x19_15 = some ((x20_17 : Sl).v)) ∧ (hcell h x25_16 = some ((x26_18 : Sl).v))) w.heap) (i := 11) (v := .string x28_29) #[true, true, true, true, true, false, true, true, true, true, true, true, false] rfl rfl (by kernel_rfl) hE hR rfl (wanted_none rfl) (b2s_run hE rfl un30 un9 un5 qx28_29) ⟨rfl, rfl⟩ (fun w' e => by rw [e]; exact hs) (fun a w hE hR hh hs => ?_)
            replace H := M.at hh H; clear hh
            obtain ⟨x22_30, qx22_30, H⟩ := H
            refine d_one (i := 5) (v := .string x22_30) #[true, true, true, true, true, true, true, true, true, true, true, true, false] rfl rfl hT (by kernel_rfl) rfl hE hR rfl (wanted_none rfl) (b2s_run hE rfl un30 un9 un5 qx22_30) ⟨rfl, rfl⟩ (fun w' e => by rw [e]; exact hs) (fun a w hE hR hh hs => ?_)
            replace H := M.at hh H; clear hh
            refine d_pureg (i := 12) (v := .bool (!(sEq x22_30 x28_29))) #[true, true, true, true, true, true, true, true, true, true, true, true, true] rfl rfl hT (by kernel_rfl) hE rfl (wanted_none rfl) (fun w => r_bin hE rfl rfl g_str b_neqS) (fun a hE => ?_)
            exact hj _ _ _ (hE.cut (.cons rfl (.cons rfl (.cons rfl (.cons rfl (.cons rfl (.cons rfl (.cons rfl (.cons rfl (.cons rfl (.cons rfl (.cons rfl (.cons rfl (.cons rfl (.cons rfl (.cons rfl (.cons rfl (.cons rfl (.cons rfl (.cons rfl (.cons rfl Subs.nil))))))))))))))))))))) hR H
    · replace H := M.ite_f hb H
      refine w_exit ?_
      refine Xu.same ?_
      refine hK_5 _ _ ?_
      refine w_seq (fun K hK_33 => ?_)
      refine t_region ?_
      refine t_val (v := .bool true) rfl rfl hE rfl (r_assign hE rfl) (fun a hE => ?_)
      refine t_nil ?_
      refine hK_33 _ _ ?_
      refine w_ret ?_
      exact hret _ _ _ true _ hE hR (res_run hE rfl (RV.tmp rfl RV.nil)) rfl H

/-- ramble/ramblelaw06.WalOld -/
def ramblelaw06_WalOld_j1 (self2 : (Sl × Int) → M (Bool)) (c57_52 : Int) (x11_47 : Sl) : M (Bool) := do
  self2 (x11_47, IntKind.wrap .i64 (c57_52 + 1))
def ramblelaw06_WalOld_l2 (c5_40 : Option Addr) (c7_41 : Option Addr) (c55_42 : Sl) (c56_43 : Int) (self2 : (Sl × Int) → M (Bool)) : (Sl × Int) → M (Bool) := fun s => match s with
  | (x11_38, x57_39) => do
    M.ite (decide (x57_39 < c56_43)) (do
      let x59_54 ← ixL c55_42 x57_39 1
      let x60_55 ← ldL x59_54
      let x63_57 ← wal_Log_Append c7_41 x60_55
      M.ite (x63_57 == 0) (do
        let x67_58 ← bdL ty_sl_sl_uint8 1 #[(x60_55 : Sl).v]
        let x68_59 ← apL ty_sl_sl_uint8 1 24 (#[.slice none 0 0] : Array Value) x11_38 x67_58
        ramblelaw06_WalOld_j1 self2 x57_39 x68_59
        ) (do
        ramblelaw06_WalOld_j1 self2 x57_39 x11_38
        )
      ) (do
      let x72_61 ← wal_Open c5_40
      let x82_63 ← M.ite (x72_61.2.2.2 == 0) (do
        M.pure (!(x72_61.1).isNone)
        ) (do
        M.pure false
        )
      let x87_64 ← M.ite x82_63 (do
        let x85_65 ← b2s x72_61.2.1
        M.pure (sEq x85_65 (⟨#[110, 111, 116, 101]⟩ : ByteArray))
        ) (do
        M.pure false
        )
      let x92_66 ← M.ite x87_64 (do
        let x91_67 ← rambleref06_Same x72_61.2.2.1 x11_38
        M.pure x91_67
        ) (do
        M.pure false
        )
      let x97_68 ← M.ite x92_66 (do
        let x95_69 ← wal_Log_Epoch x72_61.1
        M.pure (x95_69 == 2)
        ) (do
        M.pure false
        )
      M.pure x97_68
      )
def ramblelaw06_WalOld_l1 (c1_18 : Sl) (c5_19 : Option Addr) (c7_20 : Option Addr) (c42_21 : Sl) (c43_22 : Int) (self1 : (Int) → M (Bool)) : (Int) → M (Bool) := fun s => match s with
  | x44_17 => do
    M.ite (decide (x44_17 < c43_22)) (do
      let x46_28 ← ixL c42_21 x44_17 1
      let x47_29 ← ldL x46_28
      let x50_30 ← wal_Log_Append c7_20 x47_29
      self1 (IntKind.wrap .i64 (x44_17 + 1))
      ) (do
      let x53_33 ← wal_Log_Reset c7_20
      M.ite (x53_33 != 0) (do
        M.pure false
        ) (do
        M.loop (ramblelaw06_WalOld_l2 c5_19 c7_20 c1_18 (c1_18.len : Int)) (Sl.nil, 0)
        )
      )
def ramblelaw06_WalOld (x0 : Sl) (x1 : Sl) : M (Bool) := do
  let x18_3 ← disk_New 40
  let x23_5 ← bdL ty_uint8 4 #[.int .u8 110, .int .u8 111, .int .u8 116, .int .u8 101]
  let x24_6 ← mrk x23_5
  let x25_7 ← wal_Format x18_3.1 30 x24_6
  let x28_10 ← ramblelaw06_begun
  let x33_11 ← M.ite (!x28_10) (do
    M.pure true
    ) (do
    M.pure (x18_3.2 != 0)
    )
  let x37_12 ← M.ite x33_11 (do
    M.pure true
    ) (do
    M.pure (x25_7.2 != 0)
    )
  let x41_13 ← M.ite x37_12 (do
    M.pure true
    ) (do
    M.pure ((x25_7.1).isNone)
    )
  M.ite x41_13 (do
    M.pure false
    ) (do
    M.loop (ramblelaw06_WalOld_l1 x1 x18_3.1 x25_7.1 x0 (x0.len : Int)) 0
    )
theorem S_ramblelaw06_WalOld (x0 : Sl) (x1 : Sl) : Sound Go.Proofs.Try.prog 3 #[(x0 : Sl).v, (x1 : Sl).v] (fun (r : Bool) => .bool r) (ramblelaw06_WalOld x0 x1) := by
  refine sound_of [(0, (x0 : Sl).v), (1, (x1 : Sl).v)] Go.Proofs.Try.func3 rfl rfl (Nat.le_of_ble_eq_true rfl) (args_of ⟨rfl, rfl, trivial⟩) (fun w0 w Q R a hret hE hR H => ?_)
  unfold ramblelaw06_WalOld at H
  refine w_seq (fun K hK_1 => ?_)
  refine t_region ?_
  refine t_val (v := .bool false) rfl rfl hE rfl (r_assign hE rfl) (fun a hE => ?_)
  refine t_nil ?_
  refine hK_1 _ _ ?_
  refine w_seq (fun K hK_2 => ?_)
  refine t_region ?_
  refine t_call hE hR cl_disk_New rfl (S_disk_New 40) (M.unbind H) (fun x18_3 a w ea hR H => ?_)
  have hE := Env.put_some hE rfl ea; clear ea
  refine t_val (v := .tuple #[.pointer x18_3.1, .int .i64 x18_3.2]) rfl rfl hE rfl (r_move hE rfl) (fun a hE => ?_)
  refine t_val (v := .pointer x18_3.1) rfl rfl hE rfl (r_extract hE rfl rfl) (fun a hE => ?_)
  refine t_val (v := .int .i64 x18_3.2) rfl rfl hE rfl (r_extract hE rfl rfl) (fun a hE => ?_)
  refine t_val (v := .pointer x18_3.1) rfl rfl hE rfl (r_assign hE rfl) (fun a hE => ?_)
  refine t_val (v := .int .i64 x18_3.2) rfl rfl hE rfl (r_assign hE rfl) (fun a hE => ?_)
  refine t_nil ?_
  refine hK_2 _ _ ?_
  refine w_seq (fun K hK_4 => ?_)
  refine t_region ?_
  refine t_val (v := .pointer x18_3.1) rfl rfl hE rfl (r_move hE rfl) (fun a hE => ?_)
  obtain ⟨x23_5, qx23_5, H⟩ := H
  refine t_valh (v := (x23_5 : Sl).v) rfl rfl hE rfl hR (r_buildL (cells := #[.int .u8 110, .int .u8 111, .int .u8 116, .int .u8 101]) hE rfl un30 sz5 zr5 rfl rfl qx23_5) (fun a w hE hR hh => ?_)
  replace H := M.at hh H; clear hh
  obtain ⟨x24_6, qx24_6, H⟩ := H
  refine t_valh (v := (x24_6 : Sl).v) rfl rfl hE rfl hR (r_mrk hE rfl un30 un5 qx24_6) (fun a w hE hR hh => ?_)
  replace H := M.at hh H; clear hh
  refine t_call hE hR cl_wal_Format rfl (S_wal_Format x18_3.1 30 x24_6) (M.unbind H) (fun x25_7 a w ea hR H => ?_)
  have hE := Env.put_some hE rfl ea; clear ea
  refine t_val (v := .tuple #[.pointer x25_7.1, .int .i64 x25_7.2]) rfl rfl hE rfl (r_move hE rfl) (fun a hE => ?_)
  refine t_val (v := .pointer x25_7.1) rfl rfl hE rfl (r_extract hE rfl rfl) (fun a hE => ?_)
  refine t_val (v := .int .i64 x25_7.2) rfl rfl hE rfl (r_extract hE rfl rfl) (fun a hE => ?_)
  refine t_val (v := .pointer x25_7.1) rfl rfl hE rfl (r_assign hE rfl) (fun a hE => ?_)
  refine t_val (v := .int .i64 x25_7.2) rfl rfl hE rfl (r_assign hE rfl) (fun a hE => ?_)
  refine t_nil ?_
  refine hK_4 _ _ ?_
  refine w_seq (fun K hK_8 => ?_)
  refine w_seq (fun K hK_9 => ?_)
  refine t_region ?_
  refine t_call hE hR cl_ramblelaw06_begun rfl (S_ramblelaw06_begun ) (M.unbind H) (fun x28_10 a w ea hR H => ?_)
  have hE := Env.put_some hE rfl ea; clear ea
  refine t_val (v := .bool (!x28_10)) rfl rfl hE rfl (r_un hE rfl u_not) (fun a hE => ?_)
  refine t_val (v := .bool (!x28_10)) rfl rfl hE rfl (r_move hE rfl) (fun a hE => ?_)
  refine t_grp (n := (⟨98, []⟩ : Frm)) (w0 := w0) 3 (fun x33_11 : Bool => [(0, (x0 : Sl).v), (1, (x1 : Sl).v), (5, .pointer x18_3.1), (7, .pointer x25_7.1), (8, .int .i64 x25_7.2), (33, .bool x33_11)]) (M.unbind H) (fun Kr hKr H => ?_) ?_
  · rcases bool_em (!x28_10) with hb | hb
    · replace H := M.ite_t hb H
      have hE := hE.reb 30 (!x28_10) true hb rfl
      refine t_off rfl hE rfl rfl rfl (fun a ea => ?_)
      have hE := Env.put_some hE rfl ea; clear ea
      refine t_off rfl hE rfl rfl rfl (fun a ea => ?_)
      have hE := Env.put_some hE rfl ea; clear ea
      refine t_val rfl rfl hE rfl (r_pick_t hE rfl rfl) (fun a hE => ?_)
      refine t_nil ?_
      exact hKr _ _ _ (hE.cut (.cons rfl (.cons rfl (.cons rfl (.cons rfl (.cons rfl (.cons rfl Subs.nil))))))) hR H
    · replace H := M.ite_f hb H
      have hE := hE.reb 30 (!x28_10) false hb rfl
      refine t_on rfl hE rfl rfl rfl ?_
      refine t_val (v := .int .i64 x18_3.2) rfl rfl hE rfl (r_move hE rfl) (fun a hE => ?_)
      refine t_on rfl hE rfl rfl rfl ?_
      refine t_val (v := .bool (x18_3.2 != 0)) rfl rfl hE rfl (r_bin hE rfl rfl g_int b_neq) (fun a hE => ?_)
      refine t_val rfl rfl hE rfl (r_pick_f hE rfl rfl) (fun a hE => ?_)
      refine t_nil ?_
      exact hKr _ _ _ (hE.cut (.cons rfl (.cons rfl (.cons rfl (.cons rfl (.cons rfl (.cons rfl Subs.nil))))))) hR H
  · intro x33_11 a w hE hR H
    refine t_val (v := .bool x33_11) rfl rfl hE rfl (r_move hE rfl) (fun a hE => ?_)
    refine t_grp (n := (⟨98, []⟩ : Frm)) (w0 := w0) 3 (fun x37_12 : Bool => [(0, (x0 : Sl).v), (1, (x1 : Sl).v), (5, .pointer x18_3.1), (7, .pointer x25_7.1), (37, .bool x37_12)]) (M.unbind H) (fun Kr hKr H => ?_) ?_
    · rcases bool_em x33_11 with hb | hb
      · replace H := M.ite_t hb H
        have hE := hE.reb 34 x33_11 true hb rfl
        refine t_off rfl hE rfl rfl rfl (fun a ea => ?_)
        have hE := Env.put_some hE rfl ea; clear ea
        refine t_off rfl hE rfl rfl rfl (fun a ea => ?_)
        have hE := Env.put_some hE rfl ea; clear ea
        refine t_val rfl rfl hE rfl (r_pick_t hE rfl rfl) (fun a hE => ?_)
        refine t_nil ?_
        exact hKr _ _ _ (hE.cut (.cons rfl (.cons rfl (.cons rfl (.cons rfl (.cons rfl Subs.nil)))))) hR H
      · replace H := M.ite_f hb H
        have hE := hE.reb 34 x33_11 false hb rfl
        refine t_on rfl hE rfl rfl rfl ?_
        refine t_val (v := .int .i64 x25_7.2) rfl rfl hE rfl (r_move hE rfl) (fun a hE => ?_)
        refine t_on rfl hE rfl rfl rfl ?_
        refine t_val (v := .bool (x25_7.2 != 0)) rfl rfl hE rfl (r_bin hE rfl rfl g_int b_neq) (fun a hE => ?_)
        refine t_val rfl rfl hE rfl (r_pick_f hE rfl rfl) (fun a hE => ?_)
        refine t_nil ?_
        exact hKr _ _ _ (hE.cut (.cons rfl (.cons rfl (.cons rfl (.cons rfl (.cons rfl Subs.nil)))))) hR H
    · intro x37_12 a w hE hR H
      refine t_val (v := .bool x37_12) rfl rfl hE rfl (r_move hE rfl) (fun a hE => ?_)
      refine t_grp (n := (⟨98, []⟩ : Frm)) (w0 := w0) 3 (fun x41_13 : Bool => [(0, (x0 : Sl).v), (1, (x1 : Sl).v), (5, .pointer x18_3.1), (7, .pointer x25_7.1), (41, .bool x41_13)]) (M.unbind H) (fun Kr hKr H => ?_) ?_
      · rcases bool_em x37_12 with hb | hb
        · replace H := M.ite_t hb H
          have hE := hE.reb 38 x37_12 true hb rfl
          refine t_off rfl hE rfl rfl rfl (fun a ea => ?_)
          have hE := Env.put_some hE rfl ea; clear ea
          refine t_off rfl hE rfl rfl rfl (fun a ea => ?_)
          have hE := Env.put_some hE rfl ea; clear ea
          refine t_val rfl rfl hE rfl (r_pick_t hE rfl rfl) (fun a hE => ?_)
          refine t_nil ?_
          exact hKr _ _ _ (hE.cut (.cons rfl (.cons rfl (.cons rfl (.cons rfl (.cons rfl Subs.nil)))))) hR H
        · replace H := M.ite_f hb H
          have hE := hE.reb 38 x37_12 false hb rfl
          refine t_on rfl hE rfl rfl rfl ?_
          refine t_val (v := .pointer x25_7.1) rfl rfl hE rfl (r_move hE rfl) (fun a hE => ?_)
          refine t_on rfl hE rfl rfl rfl ?_
          refine t_val (v := .bool ((x25_7.1).isNone)) rfl rfl hE rfl (r_bin hE rfl rfl g_ptr (b_eqlP un27)) (fun a hE => ?_)
          refine t_val rfl rfl hE rfl (r_pick_f hE rfl rfl) (fun a hE => ?_)
          refine t_nil ?_
          exact hKr _ _ _ (hE.cut (.cons rfl (.cons rfl (.cons rfl (.cons rfl (.cons rfl Subs.nil)))))) hR H
      · intro x41_13 a w hE hR H
        refine t_nil ?_
        refine hK_9 _ _ ?_
        refine w_cond x41_13 hE rfl (fun hb => ?_) (fun hb => ?_)
        · replace H := M.ite_t hb H
          refine w_seq (fun K hK_14 => ?_)
          refine t_region ?_
          refine t_val (v := .bool false) rfl rfl hE rfl (r_assign hE rfl) (fun a hE => ?_)
          refine t_nil ?_
          refine hK_14 _ _ ?_
          refine w_ret ?_
          exact hret _ _ _ false _ hE hR (res_run hE rfl (RV.tmp rfl RV.nil)) rfl H
        · replace H := M.ite_f hb H
          refine w_skip ?_
          refine hK_8 _ _ ?_
          refine w_seq (fun K hK_15 => ?_)
          refine w_seq (fun K hK_16 => ?_)
          refine t_region ?_
          refine t_val (v := (x0 : Sl).v) rfl rfl hE rfl (r_move hE rfl) (fun a hE => ?_)
          refine t_val (v := .int .i64 (x0.len : Int)) rfl rfl hE rfl (r_len hE rfl 32 un22) (fun a hE => ?_)
          refine t_val (v := .int .i64 0) rfl rfl hE rfl (r_move hE rfl) (fun a hE => ?_)
          refine t_nil ?_
          refine hK_16 _ _ ?_
          refine w_block ?_
          refine l_loop (fun (s : Int) => (⟨98, []⟩ : Frm)) (fun (s : Int) => [(1, (x1 : Sl).v), (5, .pointer x18_3.1), (7, .pointer x25_7.1), (42, (x0 : Sl).v), (43, .int .i64 (x0.len : Int)), (44, .int .i64 s)]) H (hE.cut (.cons rfl (.cons rfl (.cons rfl (.cons rfl (.cons rfl (.cons rfl Subs.nil))))))) hR (fun Y self1 hY_23 x44_17 a w hE hR H => ?_)
          replace hE : Env (⟨98, []⟩ : Frm) a [(1, (x1 : Sl).v), (5, .pointer x18_3.1), (7, .pointer x25_7.1), (42, (x0 : Sl).v), (43, .int .i64 (x0.len : Int)), (44, .int .i64 x44_17)] := hE
          replace H : (ramblelaw06_WalOld_l1 x1 x18_3.1 x25_7.1 x0 (x0.len : Int) self1 x44_17).wp w.heap Q := H
          unfold ramblelaw06_WalOld_l1 at H
          refine w_seq (fun K hK_24 => ?_)
          refine t_region ?_
          refine t_val (v := .bool (decide (x44_17 < (x0.len : Int)))) rfl rfl hE rfl (r_bin hE rfl rfl g_int b_lss) (fun a hE => ?_)
          refine t_nil ?_
          refine hK_24 _ _ ?_
          refine w_seq (fun K hK_25 => ?_)
          refine w_cond (decide (x44_17 < (x0.len : Int))) hE rfl (fun hb => ?_) (fun hb => ?_)
          · replace H := M.ite_t hb H
            refine w_skip ?_
            refine hK_25 _ _ ?_
            refine w_seq (fun K hK_26 => ?_)
            refine w_block ?_
            refine w_seq (fun K hK_27 => ?_)
            refine t_region ?_
            obtain ⟨x46_28, qx46_28, H⟩ := H
            refine t_val (v := .pointer (some x46_28)) rfl rfl hE rfl (r_indexAddrL hE rfl rfl un22 sz32 qx46_28) (fun a hE => ?_)
            obtain ⟨x47_29, qx47_29, H⟩ := H
            refine t_val (v := (x47_29 : Sl).v) rfl rfl hE rfl (r_load hE rfl sc32 qx47_29) (fun a hE => ?_)
            refine t_val (v := (x47_29 : Sl).v) rfl rfl hE rfl (r_assign hE rfl) (fun a hE => ?_)
            refine t_nil ?_
            refine hK_27 _ _ ?_
            refine t_region ?_
            refine t_val (v := .pointer x25_7.1) rfl rfl hE rfl (r_move hE rfl) (fun a hE => ?_)
            refine t_val (v := (x47_29 : Sl).v) rfl rfl hE rfl (r_move hE rfl) (fun a hE => ?_)
            refine t_call hE hR cl_wal_Log_Append rfl (S_wal_Log_Append x25_7.1 x47_29) (M.unbind H) (fun x50_30 a w ea hR H => ?_)
            have hE := Env.put_some hE rfl ea; clear ea
            refine t_nil ?_
            refine hK_26 _ _ ?_
            refine t_region ?_
            refine t_val (v := .int .i64 (IntKind.wrap .i64 (x44_17 + 1))) rfl rfl hE rfl (r_bin hE rfl rfl g_int b_add) (fun a hE => ?_)
            refine t_val (v := .int .i64 (IntKind.wrap .i64 (x44_17 + 1))) rfl rfl hE rfl (r_move hE rfl) (fun a hE => ?_)
            refine t_nil ?_
            exact hY_23 (IntKind.wrap .i64 (x44_17 + 1)) _ _ (hE.cut (.cons rfl (.cons rfl (.cons rfl (.cons rfl (.cons rfl (.cons rfl Subs.nil))))))) hR H
          · replace H := M.ite_f hb H
            refine w_exit ?_
            refine Xu.same ?_
            refine hK_15 _ _ ?_
            refine w_seq (fun K hK_31 => ?_)
            refine w_seq (fun K hK_32 => ?_)
            refine t_region ?_
            refine t_val (v := .pointer x25_7.1) rfl rfl hE rfl (r_move hE rfl) (fun a hE => ?_)
            refine t_call hE hR cl_wal_Log_Reset rfl (S_wal_Log_Reset x25_7.1) (M.unbind H) (fun x53_33 a w ea hR H => ?_)
            have hE := Env.put_some hE rfl ea; clear ea
            refine t_val (v := .bool (x53_33 != 0)) rfl rfl hE rfl (r_bin hE rfl rfl g_int b_neq) (fun a hE => ?_)
            refine t_nil ?_
            refine hK_32 _ _ ?_
            refine w_cond (x53_33 != 0) hE rfl (fun hb => ?_) (fun hb => ?_)
            · replace H := M.ite_t hb H
              refine w_seq (fun K hK_34 => ?_)
              refine t_region ?_
              refine t_val (v := .bool false) rfl rfl hE rfl (r_assign hE rfl) (fun a hE => ?_)
              refine t_nil ?_
              refine hK_34 _ _ ?_
              refine w_ret ?_
              exact hret _ _ _ false _ hE hR (res_run hE rfl (RV.tmp rfl RV.nil)) rfl H
            · replace H := M.ite_f hb H
              refine w_skip ?_
              refine hK_31 _ _ ?_
              refine w_seq (fun K hK_35 => ?_)
              refine t_region ?_
              refine t_val (v := (Sl.nil : Sl).v) rfl rfl hE rfl (r_assign hE rfl) (fun a hE => ?_)
              refine t_nil ?_
              refine hK_35 _ _ ?_
              refine w_seq (fun K hK_36 => ?_)
              refine w_seq (fun K hK_37 => ?_)
              refine t_region ?_
              refine t_val (v := (x1 : Sl).v) rfl rfl hE rfl (r_move hE rfl) (fun a hE => ?_)
              refine t_val (v := .int .i64 (x1.len : Int)) rfl rfl hE rfl (r_len hE rfl 32 un22) (fun a hE => ?_)
              refine t_val (v := .int .i64 0) rfl rfl hE rfl (r_move hE rfl) (fun a hE => ?_)
              refine t_nil ?_
              refine hK_37 _ _ ?_
              refine w_block ?_
              refine l_loop (fun (s : Sl × Int) => (⟨98, []⟩ : Frm)) (fun (s : Sl × Int) => [(5, .pointer x18_3.1), (7, .pointer x25_7.1), (11, (s.1 : Sl).v), (55, (x1 : Sl).v), (56, .int .i64 (x1.len : Int)), (57, .int .i64 s.2)]) H (hE.cut (.cons rfl (.cons rfl (.cons rfl (.cons rfl (.cons rfl (.cons rfl Subs.nil))))))) hR (fun Y self2 hY_44 s a w hE hR H => ?_)
              rcases s with ⟨x11_38, x57_39⟩
              replace hE : Env (⟨98, []⟩ : Frm) a [(5, .pointer x18_3.1), (7, .pointer x25_7.1), (11, (x11_38 : Sl).v), (55, (x1 : Sl).v), (56, .int .i64 (x1.len : Int)), (57, .int .i64 x57_39)] := hE
              replace H : (ramblelaw06_WalOld_l2 x18_3.1 x25_7.1 x1 (x1.len : Int) self2 (x11_38, x57_39)).wp w.heap Q := H
              unfold ramblelaw06_WalOld_l2 at H
              refine w_seq (fun K hK_45 => ?_)
              refine t_region ?_
              refine t_val (v := .bool (decide (x57_39 < (x1.len : Int)))) rfl rfl hE rfl (r_bin hE rfl rfl g_int b_lss) (fun a hE => ?_)
              refine t_nil ?_
              refine hK_45 _ _ ?_
              refine w_seq (fun K hK_46 => ?_)
              refine w_cond (decide (x57_39 < (x1.len : Int))) hE rfl (fun hb => ?_) (fun hb => ?_)
              · replace H := M.ite_t hb H
                refine w_skip ?_
                refine hK_46 _ _ ?_
                refine w_seq_join (fun a w => ∃ (x11_47 : Sl), Env (⟨98, []⟩ : Frm) a [(5, .pointer x18_3.1), (7, .pointer x25_7.1), (55, (x1 : Sl).v), (56, .int .i64 (x1.len : Int)), (57, .int .i64 x57_39), (11, (x11_47 : Sl).v)] ∧ Rest w0 w ∧ (ramblelaw06_WalOld_j1 self2 x57_39 x11_47).wp w.heap Q) ?_ ?_
                · rintro a w ⟨x11_47, hE, hR, H⟩
                  unfold ramblelaw06_WalOld_j1 at H
                  refine t_region ?_
                  refine t_val (v := .int .i64 (IntKind.wrap .i64 (x57_39 + 1))) rfl rfl hE rfl (r_bin hE rfl rfl g_int b_add) (fun a hE => ?_)
                  refine t_val (v := .int .i64 (IntKind.wrap .i64 (x57_39 + 1))) rfl rfl hE rfl (r_move hE rfl) (fun a hE => ?_)
                  refine t_nil ?_
                  exact hY_44 (x11_47, IntKind.wrap .i64 (x57_39 + 1)) _ _ (hE.cut (.cons rfl (.cons rfl (.cons rfl (.cons rfl (.cons rfl (.cons rfl Subs.nil))))))) hR H
                · skip
                  refine w_block ?_
                  refine w_seq (fun K hK_53 => ?_)
                  refine t_region ?_
                  obtain ⟨x59_54, qx59_54, H⟩ := H
                  refine t_val (v := .pointer (some x59_54)) rfl rfl hE rfl (r_indexAddrL hE rfl rfl un22 sz32 qx59_54) (fun a hE => ?_)
                  obtain ⟨x60_55, qx60_55, H⟩ := H
                  refine t_val (v := (x60_55 : Sl).v) rfl rfl hE rfl (r_load hE rfl sc32 qx60_55) (fun a hE => ?_)
                  refine t_val (v := (x60_55 : Sl).v) rfl rfl hE rfl (r_assign hE rfl) (fun a hE => ?_)
                  refine t_nil ?_
                  refine hK_53 _ _ ?_
                  refine w_seq (fun K hK_56 => ?_)
                  refine t_region ?_
                  refine t_val (v := .pointer x25_7.1) rfl rfl hE rfl (r_move hE rfl) (fun a hE => ?_)
                  refine t_val (v := (x60_55 : Sl).v) rfl rfl hE rfl (r_move hE rfl) (fun a hE => ?_)
                  refine t_call hE hR cl_wal_Log_Append rfl (S_wal_Log_Append x25_7.1 x60_55) (M.unbind H) (fun x63_57 a w ea hR H => ?_)
                  have hE := Env.put_some hE rfl ea; clear ea
                  refine t_val (v := .bool (x63_57 == 0)) rfl rfl hE rfl (r_bin hE rfl rfl g_int b_eql) (fun a hE => ?_)
                  refine t_nil ?_
                  refine hK_56 _ _ ?_
                  refine w_cond (x63_57 == 0) hE rfl (fun hb => ?_) (fun hb => ?_)
                  · replace H := M.ite_t hb H
                    refine t_region ?_
                    refine t_val (v := (x11_38 : Sl).v) rfl rfl hE rfl (r_move hE rfl) (fun a hE => ?_)
                    refine t_val (v := (x60_55 : Sl).v) rfl rfl hE rfl (r_move hE rfl) (fun a hE => ?_)
                    obtain ⟨x67_58, qx67_58, H⟩ := H
                    refine t_valh (v := (x67_58 : Sl).v) rfl rfl hE rfl hR (r_buildL (cells := #[(x60_55 : Sl).v]) hE rfl un22 sz32 zr32 rfl rfl qx67_58) (fun a w hE hR hh => ?_)
                    replace H := M.at hh H; clear hh
                    refine t_ex (fun x68_59 => (x68_59 : Sl).v) rfl rfl hR (M.unbind H) (fun Q H => ap_run hE rfl rfl ap22 H) (fun x68_59 a w ea hR H => ?_)
                    have hE := Env.put_some hE rfl ea; clear ea
                    refine t_val (v := (x68_59 : Sl).v) rfl rfl hE rfl (r_assign hE rfl) (fun a hE => ?_)
                    refine t_nil ?_
                    exact ⟨x68_59, hE.cut (.cons rfl (.cons rfl (.cons rfl (.cons rfl (.cons rfl (.cons rfl Subs.nil)))))), hR, H⟩
                  · replace H := M.ite_f hb H
                    refine w_skip ?_
                    exact ⟨x11_38, hE.cut (.cons rfl (.cons rfl (.cons rfl (.cons rfl (.cons rfl (.cons rfl Subs.nil)))))), hR, H⟩
              · replace H := M.ite_f hb H
                refine w_exit ?_
                refine Xu.same ?_
                refine hK_36 _ _ ?_
                refine w_seq (fun K hK_60 => ?_)
                refine t_region ?_
                refine t_val (v := .pointer x18_3.1) rfl rfl hE rfl (r_move hE rfl) (fun a hE => ?_)
                refine t_call hE hR cl_wal_Open rfl (S_wal_Open x18_3.1) (M.unbind H) (fun x72_61 a w ea hR H => ?_)
                have hE := Env.put_some hE rfl ea; clear ea
                refine t_val (v := .tuple #[.pointer x72_61.1, (x72_61.2.1 : Sl).v, (x72_61.2.2.1 : Sl).v, .int .i64 x72_61.2.2.2]) rfl rfl hE rfl (r_move hE rfl) (fun a hE => ?_)
                refine t_val (v := .pointer x72_61.1) rfl rfl hE rfl (r_extract hE rfl rfl) (fun a hE => ?_)
                refine t_val (v := (x72_61.2.1 : Sl).v) rfl rfl hE rfl (r_extract hE rfl rfl) (fun a hE => ?_)
                refine t_val (v := (x72_61.2.2.1 : Sl).v) rfl rfl hE rfl (r_extract hE rfl rfl) (fun a hE => ?_)
                refine t_val (v := .int .i64 x72_61.2.2.2) rfl rfl hE rfl (r_extract hE rfl rfl) (fun a hE => ?_)
                refine t_val (v := .pointer x72_61.1) rfl rfl hE rfl (r_assign hE rfl) (fun a hE => ?_)
                refine t_val (v := (x72_61.2.1 : Sl).v) rfl rfl hE rfl (r_assign hE rfl) (fun a hE => ?_)
                refine t_val (v := (x72_61.2.2.1 : Sl).v) rfl rfl hE rfl (r_assign hE rfl) (fun a hE => ?_)
                refine t_val (v := .int .i64 x72_61.2.2.2) rfl rfl hE rfl (r_assign hE rfl) (fun a hE => ?_)
                refine t_nil ?_
                refine hK_60 _ _ ?_
                refine w_seq (fun K hK_62 => ?_)
                refine t_region ?_
                refine t_val (v := .int .i64 x72_61.2.2.2) rfl rfl hE rfl (r_move hE rfl) (fun a hE => ?_)
                refine t_val (v := .bool (x72_61.2.2.2 == 0)) rfl rfl hE rfl (r_bin hE rfl rfl g_int b_eql) (fun a hE => ?_)
                refine t_val (v := .bool (x72_61.2.2.2 == 0)) rfl rfl hE rfl (r_move hE rfl) (fun a hE => ?_)
                refine t_grp (n := (⟨98, []⟩ : Frm)) (w0 := w0) 3 (fun x82_63 : Bool => [(11, (x11_38 : Sl).v), (14, .pointer x72_61.1), (15, (x72_61.2.1 : Sl).v), (16, (x72_61.2.2.1 : Sl).v), (82, .bool x82_63)]) (M.unbind H) (fun Kr hKr H => ?_) ?_
                · rcases bool_em (x72_61.2.2.2 == 0) with hb | hb
                  · replace H := M.ite_t hb H
                    have hE := hE.reb 79 (x72_61.2.2.2 == 0) true hb rfl
                    refine t_on rfl hE rfl rfl rfl ?_
                    refine t_val (v := .pointer x72_61.1) rfl rfl hE rfl (r_move hE rfl) (fun a hE => ?_)
                    refine t_on rfl hE rfl rfl rfl ?_
                    refine t_val (v := .bool (!(x72_61.1).isNone)) rfl rfl hE rfl (r_bin hE rfl rfl g_ptr (b_neqP un27)) (fun a hE => ?_)
                    refine t_val rfl rfl hE rfl (r_pick_t hE rfl rfl) (fun a hE => ?_)
                    refine t_nil ?_
                    exact hKr _ _ _ (hE.cut (.cons rfl (.cons rfl (.cons rfl (.cons rfl (.cons rfl Subs.nil)))))) hR H
                  · replace H := M.ite_f hb H
                    have hE := hE.reb 79 (x72_61.2.2.2 == 0) false hb rfl
                    refine t_off rfl hE rfl rfl rfl (fun a ea => ?_)
                    have hE := Env.put_some hE rfl ea; clear ea
                    refine t_off rfl hE rfl rfl rfl (fun a ea => ?_)
                    have hE := Env.put_some hE rfl ea; clear ea
                    refine t_val rfl rfl hE rfl (r_pick_f hE rfl rfl) (fun a hE => ?_)
                    refine t_nil ?_
                    exact hKr _ _ _ (hE.cut (.cons rfl (.cons rfl (.cons rfl (.cons rfl (.cons rfl Subs.nil)))))) hR H
                · intro x82_63 a w hE hR H
                  refine t_val (v := .bool x82_63) rfl rfl hE rfl (r_move hE rfl) (fun a hE => ?_)
                  refine t_grp (n := (⟨98, []⟩ : Frm)) (w0 := w0) 4 (fun x87_64 : Bool => [(11, (x11_38 : Sl).v), (14, .pointer x72_61.1), (16, (x72_61.2.2.1 : Sl).v), (87, .bool x87_64)]) (M.unbind H) (fun Kr hKr H => ?_) ?_
                  · rcases bool_em x82_63 with hb | hb
                    · replace H := M.ite_t hb H
                      have hE := hE.reb 83 x82_63 true hb rfl
                      refine t_on rfl hE rfl rfl rfl ?_
                      refine t_val (v := (x72_61.2.1 : Sl).v) rfl rfl hE rfl (r_move hE rfl) (fun a hE => ?_)
                      refine t_on rfl hE rfl rfl rfl ?_
                      obtain ⟨x85_65, qx85_65, H⟩ := H
                      refine t_val (v := .string x85_65) rfl rfl hE rfl (b2s_run hE rfl un30 un9 un5 qx85_65) (fun a hE => ?_)
                      refine t_on rfl hE rfl rfl rfl ?_
                      refine t_val (v := .bool (sEq x85_65 (⟨#[110, 111, 116, 101]⟩ : ByteArray))) rfl rfl hE rfl (r_bin hE rfl rfl g_str b_eqlS) (fun a hE => ?_)
                      refine t_val rfl rfl hE rfl (r_pick_t hE rfl rfl) (fun a hE => ?_)
                      refine t_nil ?_
                      exact hKr _ _ _ (hE.cut (.cons rfl (.cons rfl (.cons rfl (.cons rfl Subs.nil))))) hR H
                    · replace H := M.ite_f hb H
                      have hE := hE.reb 83 x82_63 false hb rfl
                      refine t_off rfl hE rfl rfl rfl (fun a ea => ?_)
                      have hE := Env.put_some hE rfl ea; clear ea
                      refine t_off rfl hE rfl rfl rfl (fun a ea => ?_)
                      have hE := Env.put_some hE rfl ea; clear ea
                      refine t_off rfl hE rfl rfl rfl (fun a ea => ?_)
                      have hE := Env.put_some hE rfl ea; clear ea
                      refine t_val rfl rfl hE rfl (r_pick_f hE rfl rfl) (fun a hE => ?_)
                      refine t_nil ?_
                      exact hKr _ _ _ (hE.cut (.cons rfl (.cons rfl (.cons rfl (.cons rfl Subs.nil))))) hR H
                  · intro x87_64 a w hE hR H
                    refine t_val (v := .bool x87_64) rfl rfl hE rfl (r_move hE rfl) (fun a hE => ?_)
                    refine t_grp (n := (⟨98, []⟩ : Frm)) (w0 := w0) 4 (fun x92_66 : Bool => [(14, .pointer x72_61.1), (92, .bool x92_66)]) (M.unbind H) (fun Kr hKr H => ?_) ?_
                    · rcases bool_em x87_64 with hb | hb
                      · replace H := M.ite_t hb H
                        have hE := hE.reb 88 x87_64 true hb rfl
                        refine t_on rfl hE rfl rfl rfl ?_
                        refine t_val (v := (x72_61.2.2.1 : Sl).v) rfl rfl hE rfl (r_move hE rfl) (fun a hE => ?_)
                        refine t_on rfl hE rfl rfl rfl ?_
                        refine t_val (v := (x11_38 : Sl).v) rfl rfl hE rfl (r_move hE rfl) (fun a hE => ?_)
                        refine t_on rfl hE rfl rfl rfl ?_
                        refine t_call hE hR cl_rambleref06_Same rfl (S_rambleref06_Same x72_61.2.2.1 x11_38) (M.unbind H) (fun x91_67 a w ea hR H => ?_)
                        have hE := Env.put_some hE rfl ea; clear ea
                        refine t_val rfl rfl hE rfl (r_pick_t hE rfl rfl) (fun a hE => ?_)
                        refine t_nil ?_
                        exact hKr _ _ _ (hE.cut (.cons rfl (.cons rfl Subs.nil))) hR H
                      · replace H := M.ite_f hb H
                        have hE := hE.reb 88 x87_64 false hb rfl
                        refine t_off rfl hE rfl rfl rfl (fun a ea => ?_)
                        have hE := Env.put_some hE rfl ea; clear ea
                        refine t_off rfl hE rfl rfl rfl (fun a ea => ?_)
                        have hE := Env.put_some hE rfl ea; clear ea
                        refine t_off rfl hE rfl rfl rfl (fun a ea => ?_)
                        have hE := Env.put_some hE rfl ea; clear ea
                        refine t_val rfl rfl hE rfl (r_pick_f hE rfl rfl) (fun a hE => ?_)
                        refine t_nil ?_
                        exact hKr _ _ _ (hE.cut (.cons rfl (.cons rfl Subs.nil))) hR H
                    · intro x92_66 a w hE hR H
                      refine t_val (v := .bool x92_66) rfl rfl hE rfl (r_move hE rfl) (fun a hE => ?_)
                      refine t_grp (n := (⟨98, []⟩ : Frm)) (w0 := w0) 4 (fun x97_68 : Bool => [(97, .bool x97_68)]) (M.unbind H) (fun Kr hKr H => ?_) ?_
                      · rcases bool_em x92_66 with hb | hb
                        · replace H := M.ite_t hb H
                          have hE := hE.reb 93 x92_66 true hb rfl
                          refine t_on rfl hE rfl rfl rfl ?_
                          refine t_val (v := .pointer x72_61.1) rfl rfl hE rfl (r_move hE rfl) (fun a hE => ?_)
                          refine t_on rfl hE rfl rfl rfl ?_
                          refine t_call hE hR cl_wal_Log_Epoch rfl (S_wal_Log_Epoch x72_61.1) (M.unbind H) (fun x95_69 a w ea hR H => ?_)
                          have hE := Env.put_some hE rfl ea; clear ea
                          refine t_on rfl hE rfl rfl rfl ?_
                          refine t_val (v := .bool (x95_69 == 2)) rfl rfl hE rfl (r_bin hE rfl rfl g_int b_eql) (fun a hE => ?_)
                          refine t_val rfl rfl hE rfl (r_pick_t hE rfl rfl) (fun a hE => ?_)
                          refine t_nil ?_
                          exact hKr _ _ _ (hE.cut (.cons rfl Subs.nil)) hR H
                        · replace H := M.ite_f hb H
                          have hE := hE.reb 93 x92_66 false hb rfl
                          refine t_off rfl hE rfl rfl rfl (fun a ea => ?_)
                          have hE := Env.put_some hE rfl ea; clear ea
                          refine t_off rfl hE rfl rfl rfl (fun a ea => ?_)
                          have hE := Env.put_some hE rfl ea; clear ea
                          refine t_off rfl hE rfl rfl rfl (fun a ea => ?_)
                          have hE := Env.put_some hE rfl ea; clear ea
                          refine t_val rfl rfl hE rfl (r_pick_f hE rfl rfl) (fun a hE => ?_)
                          refine t_nil ?_
                          exact hKr _ _ _ (hE.cut (.cons rfl Subs.nil)) hR H
                      · intro x97_68 a w hE hR H
                        refine t_val (v := .bool x97_68) rfl rfl hE rfl (r_assign hE rfl) (fun a hE => ?_)
                        refine t_nil ?_
                        refine hK_62 _ _ ?_
                        refine w_ret ?_
                        exact hret _ _ _ x97_68 _ hE hR (res_run hE rfl (RV.tmp rfl RV.nil)) rfl H

/-- ramble/ramblelaw04.filled -/
def ramblelaw04_filled_l1 (c0_8 : Int) (c2_9 : Addr) (c3_10 : Addr) (self1 : (Int) → M (Array Value)) : (Int) → M (Array Value) := fun s => match s with
  | x5_7 => do
    M.ite (decide (x5_7 < 128)) (do
      let x10_16 ← ixA c3_10 128 x5_7 1
      stV x10_16 (.int .u8 c0_8)
      self1 (IntKind.wrap .i64 (x5_7 + 1))
      ) (do
      let x12_19 ← ldG 128 c3_10
      M.need (x12_19.size = 128)
      stG c2_9 x12_19
      let r2_21 ← ldG 128 c2_9
      M.pure r2_21
      )
def ramblelaw04_filled (x0 : Int) : M (Array Value) := do
  let x2_2 ← mkB ty_api_Sector (Array.replicate 128 (.int .u8 0) : Array Value)
  let x3_4 ← mkB ty_api_Sector (Array.replicate 128 (.int .u8 0) : Array Value)
  M.loop (ramblelaw04_filled_l1 x0 x2_2 x3_4) 0
theorem S_ramblelaw04_filled (x0 : Int) : Sound Go.Proofs.Try.prog 22 #[.int .u8 x0] (fun (r : Array Value) => .agg r) (ramblelaw04_filled x0) := by
  refine sound_of [(0, .int .u8 x0)] Go.Proofs.Try.func22 rfl rfl (Nat.le_of_ble_eq_true rfl) (args_of ⟨rfl, trivial⟩) (fun w0 w Q R a hret hE hR H => ?_)
  unfold ramblelaw04_filled at H
  refine w_seq (fun K hK_1 => ?_)
  refine t_region ?_
  obtain ⟨x2_2, qx2_2, H⟩ := H
  refine t_valh (v := .pointer (some x2_2)) rfl rfl hE rfl hR (r_alloc zr47 qx2_2) (fun a w hE hR hh => ?_)
  replace H := M.at hh H; clear hh
  refine t_nil ?_
  refine hK_1 _ _ ?_
  refine w_seq (fun K hK_3 => ?_)
  refine t_region ?_
  obtain ⟨x3_4, qx3_4, H⟩ := H
  refine t_valh (v := .pointer (some x3_4)) rfl rfl hE rfl hR (r_alloc zr47 qx3_4) (fun a w hE hR hh => ?_)
  replace H := M.at hh H; clear hh
  refine t_nil ?_
  refine hK_3 _ _ ?_
  refine w_seq (fun K hK_5 => ?_)
  refine w_seq (fun K hK_6 => ?_)
  refine t_region ?_
  refine t_val (v := .int .i64 0) rfl rfl hE rfl (r_move hE rfl) (fun a hE => ?_)
  refine t_nil ?_
  refine hK_6 _ _ ?_
  refine w_block ?_
  refine l_loop (fun (s : Int) => (⟨13, []⟩ : Frm)) (fun (s : Int) => [(0, .int .u8 x0), (2, .pointer (some x2_2)), (3, .pointer (some x3_4)), (5, .int .i64 s)]) H (hE.cut (.cons rfl (.cons rfl (.cons rfl (.cons rfl Subs.nil))))) hR (fun Y self1 hY_11 x5_7 a w hE hR H => ?_)
  replace hE : Env (⟨13, []⟩ : Frm) a [(0, .int .u8 x0), (2, .pointer (some x2_2)), (3, .pointer (some x3_4)), (5, .int .i64 x5_7)] := hE
  replace H : (ramblelaw04_filled_l1 x0 x2_2 x3_4 self1 x5_7).wp w.heap Q := H
  unfold ramblelaw04_filled_l1 at H
  refine w_seq (fun K hK_12 => ?_)
  refine t_region ?_
  refine t_val (v := .bool (decide (x5_7 < 128))) rfl rfl hE rfl (r_bin hE rfl rfl g_int b_lss) (fun a hE => ?_)
  refine t_nil ?_
  refine hK_12 _ _ ?_
  refine w_seq (fun K hK_13 => ?_)
  refine w_cond (decide (x5_7 < 128)) hE rfl (fun hb => ?_) (fun hb => ?_)
  · replace H := M.ite_t hb H
    refine w_skip ?_
    refine hK_13 _ _ ?_
    refine w_seq (fun K hK_14 => ?_)
    refine w_block ?_
    refine w_seq (fun K hK_15 => ?_)
    refine t_region ?_
    refine t_val (v := .int .i64 x5_7) rfl rfl hE rfl (r_move hE rfl) (fun a hE => ?_)
    refine t_val (v := .int .i64 x5_7) rfl rfl hE rfl (r_assign hE rfl) (fun a hE => ?_)
    refine t_nil ?_
    refine hK_15 _ _ ?_
    refine t_region ?_
    refine t_val (v := .int .i64 x5_7) rfl rfl hE rfl (r_move hE rfl) (fun a hE => ?_)
    refine t_val (v := .int .u8 x0) rfl rfl hE rfl (r_move hE rfl) (fun a hE => ?_)
    obtain ⟨x10_16, qx10_16, H⟩ := H
    refine t_val (v := .pointer (some x10_16)) rfl rfl hE rfl (r_indexAddrA hE rfl rfl un47 sz5 qx10_16) (fun a hE => ?_)
    obtain ⟨u_17, qu_17, H⟩ := H
    refine t_sth rfl rfl hE hR (r_store hE rfl rfl sz5 qu_17) (fun a w hE hR hh => ?_)
    replace H := M.at hh H; clear hh
    refine t_nil ?_
    refine hK_14 _ _ ?_
    refine t_region ?_
    refine t_val (v := .int .i64 (IntKind.wrap .i64 (x5_7 + 1))) rfl rfl hE rfl (r_bin hE rfl rfl g_int b_add) (fun a hE => ?_)
    refine t_val (v := .int .i64 (IntKind.wrap .i64 (x5_7 + 1))) rfl rfl hE rfl (r_move hE rfl) (fun a hE => ?_)
    refine t_nil ?_
    exact hY_11 (IntKind.wrap .i64 (x5_7 + 1)) _ _ (hE.cut (.cons rfl (.cons rfl (.cons rfl (.cons rfl Subs.nil))))) hR H
  · replace H := M.ite_f hb H
    refine w_exit ?_
    refine Xu.same ?_
    refine hK_5 _ _ ?_
    refine w_seq (fun K hK_18 => ?_)
    refine t_region ?_
    obtain ⟨x12_19, qx12_19, H⟩ := H
    refine t_val (v := .agg x12_19) rfl rfl hE rfl (r_loadG hE rfl ag47 qx12_19) (fun a hE => ?_)
    obtain ⟨qz, H⟩ := H
    obtain ⟨u_20, qu_20, H⟩ := H
    refine t_sth rfl rfl hE hR (r_storeG hE rfl rfl sz47 qz qu_20) (fun a w hE hR hh => ?_)
    replace H := M.at hh H; clear hh
    refine t_nil ?_
    refine hK_18 _ _ ?_
    refine w_ret ?_
    obtain ⟨r2_21, qr2_21, H⟩ := H
    exact hret _ _ _ r2_21 _ hE hR (res_run hE rfl (RV.cellG rfl ag47 qr2_21 RV.nil)) rfl H

/-- slices.AppendSeq[[]int,int] -/
def slices_AppendSeq_slint_int_y1 (c2_5 : Addr) (lp1 : Nat) : (Int) → M Nat := fun x => match x with
  | x7_6 => do
    let _ ← beg lp1
    let x8_7 ← ldL c2_5
    let x10_8 ← bdL ty_int 1 #[.int .i64 x7_6]
    let x11_9 ← apL ty_int 1 8 (#[.int .i64 0] : Array Value) x8_7 x10_8
    stV c2_5 ((x11_9 : Sl).v)
    M.pure 0
def slices_AppendSeq_slint_int (x0 : Sl) (x1 : Value) : M (Sl) := do
  let x2_2 ← mkB ty_sl_int #[(x0 : Sl).v]
  let j_11 ← rgF Go.Proofs.Try.prog (fun x : Int => [.int .i64 x]) [] (slices_AppendSeq_slint_int_y1 x2_2) x1
  let x12_13 ← ldL x2_2
  let _ ← shut (j_11.2 :: [])
  M.pure x12_13
theorem S_slices_AppendSeq_slint_int (x0 : Sl) (x1 : Value) : Sound Go.Proofs.Try.prog 79 #[(x0 : Sl).v, x1] (fun (r : Sl) => (r : Sl).v) (slices_AppendSeq_slint_int x0 x1) := by
  refine sound_ofM [(0, (x0 : Sl).v), (1, x1)] Go.Proofs.Try.func79 rfl rfl (Nat.le_of_ble_eq_true rfl) (args_of ⟨rfl, rfl, trivial⟩) (fun w0 w Q R a hret hE hR H => ?_)
  unfold slices_AppendSeq_slint_int at H
  refine w_seq (fun K hK_1 => ?_)
  refine t_region ?_
  obtain ⟨x2_2, qx2_2, H⟩ := H
  refine t_valh (v := .pointer (some x2_2)) rfl rfl hE rfl hR (r_box hE rfl qx2_2) (fun a w hE hR hh => ?_)
  replace H := M.at hh H; clear hh
  refine t_val (v := (Sl.nil : Sl).v) rfl rfl hE rfl (r_assign hE rfl) (fun a hE => ?_)
  refine t_nil ?_
  refine hK_1 _ _ ?_
  refine w_seq (fun K hK_3 => ?_)
  refine w_seq (fun K hK_4 => ?_)
  refine t_region ?_
  refine t_val (v := x1) rfl rfl hE rfl (r_move hE rfl) (fun a hE => ?_)
  refine t_nil ?_
  refine hK_4 _ _ ?_
  refine w_block ?_
  refine w_rangeF (js := []) (enc := (fun x : Int => [.int .i64 x])) (Y := (slices_AppendSeq_slint_int_y1 x2_2)) hE hR rfl (fun x => rfl) rfl (M.unbind H) (fun lp1 x7_6 Q w0 Rr hfin a w hE hR H => ?_) (fun j_11 a w hE hR H => ?_)
  · skip
    replace hE : Env (⟨13, []⟩ : Frm) a [(2, .pointer (some x2_2)), (7, .int .i64 x7_6)] := Env.cut hE (.cons rfl (.cons rfl Subs.nil))
    replace H : (slices_AppendSeq_slint_int_y1 x2_2 lp1 x7_6).wp w.heap Q := H
    unfold slices_AppendSeq_slint_int_y1 at H
    refine t_region ?_
    refine t_val (v := .int .i64 x7_6) rfl rfl hE rfl (r_assign hE rfl) (fun a hE => ?_)
    refine t_nil ?_
    refine beg_w hR H (fun w hR H => ?_)
    refine w_block ?_
    refine t_region ?_
    obtain ⟨x8_7, qx8_7, H⟩ := H
    refine t_val (v := (x8_7 : Sl).v) rfl rfl hE rfl (r_load hE rfl sc54 qx8_7) (fun a hE => ?_)
    refine t_val (v := .int .i64 x7_6) rfl rfl hE rfl (r_move hE rfl) (fun a hE => ?_)
    obtain ⟨x10_8, qx10_8, H⟩ := H
    refine t_valh (v := (x10_8 : Sl).v) rfl rfl hE rfl hR (r_buildL (cells := #[.int .i64 x7_6]) hE rfl un54 sz3 zr3 rfl rfl qx10_8) (fun a w hE hR hh => ?_)
    replace H := M.at hh H; clear hh
    refine t_ex (fun x11_9 => (x11_9 : Sl).v) rfl rfl hR (M.unbind H) (fun Q H => ap_run hE rfl rfl ap54 H) (fun x11_9 a w ea hR H => ?_)
    have hE := Env.put_some hE rfl ea; clear ea
    obtain ⟨u_10, qu_10, H⟩ := H
    refine t_sth rfl rfl hE hR (r_store hE rfl rfl sz54 qu_10) (fun a w hE hR hh => ?_)
    replace H := M.at hh H; clear hh
    refine t_nil ?_
    exact hfin 0 _ _ hR H
  · skip
    replace hE : Env (⟨13, (j_11.2 :: [])⟩ : Frm) a [(2, .pointer (some x2_2)), (4, (Sl.nil : Sl).v)] := Env.cut hE (.cons rfl (.cons rfl Subs.nil))
    refine jgo_nil ?_
    refine hK_3 _ _ ?_
    refine w_seq (fun K hK_12 => ?_)
    refine t_region ?_
    obtain ⟨x12_13, qx12_13, H⟩ := H
    refine t_val (v := (x12_13 : Sl).v) rfl rfl hE rfl (r_load hE rfl sc54 qx12_13) (fun a hE => ?_)
    refine t_val (v := (x12_13 : Sl).v) rfl rfl hE rfl (r_assign hE rfl) (fun a hE => ?_)
    refine t_nil ?_
    refine hK_12 _ _ ?_
    refine w_ret ?_
    refine hret _ _ _ _ _ hE hR (M.unbind H) (fun w hR H => ?_)
    exact ⟨x12_13, _, res_run hE rfl (RV.tmp rfl RV.nil), rfl, H⟩

/-- slices.Collect[int] -/
def slices_Collect_int (x0 : Value) : M (Sl) := do
  let x4_3 ← slices_AppendSeq_slint_int Sl.nil x0
  M.pure x4_3
theorem S_slices_Collect_int (x0 : Value) : Sound Go.Proofs.Try.prog 71 #[x0] (fun (r : Sl) => (r : Sl).v) (slices_Collect_int x0) := by
  refine sound_of [(0, x0)] Go.Proofs.Try.func71 rfl rfl (Nat.le_of_ble_eq_true rfl) (args_of ⟨rfl, trivial⟩) (fun w0 w Q R a hret hE hR H => ?_)
  unfold slices_Collect_int at H
  refine w_seq (fun K hK_1 => ?_)
  refine t_region ?_
  refine t_val (v := (Sl.nil : Sl).v) rfl rfl hE rfl (r_assign hE rfl) (fun a hE => ?_)
  refine t_nil ?_
  refine hK_1 _ _ ?_
  refine w_seq (fun K hK_2 => ?_)
  refine t_region ?_
  refine t_val (v := x0) rfl rfl hE rfl (r_move hE rfl) (fun a hE => ?_)
  refine t_call hE hR cl_slices_AppendSeq_slint_int rfl (S_slices_AppendSeq_slint_int Sl.nil x0) (M.unbind H) (fun x4_3 a w ea hR H => ?_)
  have hE := Env.put_some hE rfl ea; clear ea
  refine t_val (v := (x4_3 : Sl).v) rfl rfl hE rfl (r_assign hE rfl) (fun a hE => ?_)
  refine t_nil ?_
  refine hK_2 _ _ ?_
  refine w_ret ?_
  exact hret _ _ _ x4_3 _ hE hR (res_run hE rfl (RV.tmp rfl RV.nil)) rfl H

/-- slices.Sorted[int] -/
def slices_Sorted_int (x0 : Value) : M (Sl) := do
  let x5_3 ← slices_Collect_int x0
  let x7_5 ← slices_Sort_slint_int x5_3
  M.pure x5_3
theorem S_slices_Sorted_int (x0 : Value) : Sound Go.Proofs.Try.prog 55 #[x0] (fun (r : Sl) => (r : Sl).v) (slices_Sorted_int x0) := by
  refine sound_of [(0, x0)] Go.Proofs.Try.func55 rfl rfl (Nat.le_of_ble_eq_true rfl) (args_of ⟨rfl, trivial⟩) (fun w0 w Q R a hret hE hR H => ?_)
  unfold slices_Sorted_int at H
  refine w_seq (fun K hK_1 => ?_)
  refine t_region ?_
  refine t_val (v := (Sl.nil : Sl).v) rfl rfl hE rfl (r_assign hE rfl) (fun a hE => ?_)
  refine t_nil ?_
  refine hK_1 _ _ ?_
  refine w_seq (fun K hK_2 => ?_)
  refine t_region ?_
  refine t_val (v := x0) rfl rfl hE rfl (r_move hE rfl) (fun a hE => ?_)
  refine t_call hE hR cl_slices_Collect_int rfl (S_slices_Collect_int x0) (M.unbind H) (fun x5_3 a w ea hR H => ?_)
  have hE := Env.put_some hE rfl ea; clear ea
  refine t_val (v := (x5_3 : Sl).v) rfl rfl hE rfl (r_assign hE rfl) (fun a hE => ?_)
  refine t_nil ?_
  refine hK_2 _ _ ?_
  refine w_seq (fun K hK_4 => ?_)
  refine t_region ?_
  refine t_val (v := (x5_3 : Sl).v) rfl rfl hE rfl (r_move hE rfl) (fun a hE => ?_)
  refine t_call hE hR cl_slices_Sort_slint_int rfl (S_slices_Sort_slint_int x5_3) (M.unbind H) (fun x7_5 a w ea hR H => ?_)
  have hE := Env.put_some hE rfl ea; clear ea
  refine t_nil ?_
  refine hK_4 _ _ ?_
  refine w_seq (fun K hK_6 => ?_)
  refine t_region ?_
  refine t_val (v := (x5_3 : Sl).v) rfl rfl hE rfl (r_move hE rfl) (fun a hE => ?_)
  refine t_val (v := (x5_3 : Sl).v) rfl rfl hE rfl (r_assign hE rfl) (fun a hE => ?_)
  refine t_nil ?_
  refine hK_6 _ _ ?_
  refine w_ret ?_
  exact hret _ _ _ x5_3 _ hE hR (res_run hE rfl (RV.tmp rfl RV.nil)) rfl H

end Gx
namespace Gx
open Go
set_option linter.unusedVariables false
set_option maxRecDepth 100000
/-- maps.Keys[map[int]ramble/api.Sector,int,ramble/api.Sector]$1 -/
def maps_Keys_map_int_api_Sector_int_api_Sector_1_l1 (c0_4 : Value) (c5_5 : Addr) (self1 : (Unit) → M (Unit)) : (Unit) → M (Unit) := fun s => match s with
  | () => do
    let x6_8 ← nxM c5_5
    let x7_9 ← exB x6_8 0
    M.ite x7_9 (do
      let x8_12 ← enM c5_5
      let x9_13 ← exI .i64 x8_12.1
      let x12_15 ← callV Go.Proofs.Try.prog (fun r : Bool => .bool r) c0_4 [.int .i64 x9_13]
      M.ite (!x12_15) (do
        M.pure ()
        ) (do
        self1 ()
        )
      ) (do
      M.pure ()
      )
def maps_Keys_map_int_api_Sector_int_api_Sector_1 (x0 : Value) (x1 : Addr) : M (Unit) := do
  let x4_2 ← ldMp x1
  let x5_3 ← rgM x4_2
  M.loop (maps_Keys_map_int_api_Sector_int_api_Sector_1_l1 x0 x5_3) ()
theorem S_maps_Keys_map_int_api_Sector_int_api_Sector_1 (x0 : Value) (x1 : Addr) : Sound Go.Proofs.Try.prog 73 #[x0, .pointer (some x1)] (fun (r : Unit) => .tuple #[]) (maps_Keys_map_int_api_Sector_int_api_Sector_1 x0 x1) := by
  refine sound_of [(0, x0), (1, .pointer (some x1))] Go.Proofs.Try.func73 rfl rfl (Nat.le_of_ble_eq_true rfl) (args_of ⟨rfl, rfl, trivial⟩) (fun w0 w Q R a hret hE hR H => ?_)
  unfold maps_Keys_map_int_api_Sector_int_api_Sector_1 at H
  refine w_seq (fun K hK_1 => ?_)
  refine t_region ?_
  obtain ⟨x4_2, qx4_2, H⟩ := H
  refine t_val (v := .map x4_2) rfl rfl hE rfl (r_load hE rfl sc64 qx4_2) (fun a hE => ?_)
  obtain ⟨x5_3, qx5_3, H⟩ := H
  refine t_valh (v := .pointer (some x5_3)) rfl rfl hE rfl hR (r_range hE rfl un64 qx5_3) (fun a w hE hR hh => ?_)
  replace H := M.at hh H; clear hh
  refine t_nil ?_
  refine hK_1 _ _ ?_
  refine w_block ?_
  refine l_loop (fun (s : Unit) => (⟨14, []⟩ : Frm)) (fun (s : Unit) => [(0, x0), (5, .pointer (some x5_3))]) H (hE.cut (.cons rfl (.cons rfl Subs.nil))) hR (fun Y self1 hY_6 s a w hE hR H => ?_)
  cases s
  replace hE : Env (⟨14, []⟩ : Frm) a [(0, x0), (5, .pointer (some x5_3))] := hE
  replace H : (maps_Keys_map_int_api_Sector_int_api_Sector_1_l1 x0 x5_3 self1 ()).wp w.heap Q := H
  unfold maps_Keys_map_int_api_Sector_int_api_Sector_1_l1 at H
  refine w_seq (fun K hK_7 => ?_)
  refine t_region ?_
  refine t_ex (fun x6_8 => x6_8) rfl rfl hR (M.unbind H) (fun Q H => nx_run hE rfl H) (fun x6_8 a w ea hR H => ?_)
  have hE := Env.put_some hE rfl ea; clear ea
  obtain ⟨x7_9, qx7_9, H⟩ := H
  refine t_val (v := .bool x7_9) rfl rfl hE rfl (ex_run hE rfl qx7_9) (fun a hE => ?_)
  refine t_nil ?_
  refine hK_7 _ _ ?_
  refine w_seq (fun K hK_10 => ?_)
  refine w_cond x7_9 hE rfl (fun hb => ?_) (fun hb => ?_)
  · replace H := M.ite_t hb H
    refine w_skip ?_
    refine hK_10 _ _ ?_
    refine w_block ?_
    refine w_seq (fun K hK_11 => ?_)
    refine t_region ?_
    obtain ⟨x8_12, qx8_12, H⟩ := H
    refine t_val (v := .tuple #[x8_12.1, x8_12.2]) rfl rfl hE rfl (r_entry hE rfl qx8_12) (fun a hE => ?_)
    obtain ⟨x9_13, qx9_13, H⟩ := H
    refine t_val (v := .int .i64 x9_13) rfl rfl hE rfl (r_extract hE rfl (congrArg some qx9_13)) (fun a hE => ?_)
    refine t_val (v := .int .i64 x9_13) rfl rfl hE rfl (r_assign hE rfl) (fun a hE => ?_)
    refine t_nil ?_
    refine hK_11 _ _ ?_
    refine w_seq (fun K hK_14 => ?_)
    refine t_region ?_
    refine t_val (v := x0) rfl rfl hE rfl (r_move hE rfl) (fun a hE => ?_)
    refine t_val (v := .int .i64 x9_13) rfl rfl hE rfl (r_move hE rfl) (fun a hE => ?_)
    refine t_callV hE hR rfl rfl (M.unbind H) (fun x12_15 a w ea hR H => ?_)
    have hE := Env.put_some hE rfl ea; clear ea
    refine t_val (v := .bool (!x12_15)) rfl rfl hE rfl (r_un hE rfl u_not) (fun a hE => ?_)
    refine t_nil ?_
    refine hK_14 _ _ ?_
    refine w_cond (!x12_15) hE rfl (fun hb => ?_) (fun hb => ?_)
    · replace H := M.ite_t hb H
      refine w_ret ?_
      exact hret _ _ _ () _ hE hR (res_run hE rfl RV.nil) rfl H
    · replace H := M.ite_f hb H
      refine w_skip ?_
      exact hY_6 () _ _ (hE.cut (.cons rfl (.cons rfl Subs.nil))) hR H
  · replace H := M.ite_f hb H
    refine w_exit ?_
    refine Xu.same ?_
    exact hret _ _ _ () _ hE hR (res_run hE rfl RV.nil) rfl H

/-- maps.Keys[map[int]ramble/api.Sector,int,ramble/api.Sector] -/
def maps_Keys_map_int_api_Sector_int_api_Sector (x0 : Option Nat) : M (Value) := do
  let x1_2 ← mkB ty_map_int_api_Sector #[.map x0]
  M.pure (Value.func (.func fn_maps_Keys_map_int_api_Sector_int_api_Sector_1) #[] #[.pointer (some x1_2)])
theorem S_maps_Keys_map_int_api_Sector_int_api_Sector (x0 : Option Nat) : Sound Go.Proofs.Try.prog 56 #[.map x0] (fun (r : Value) => r) (maps_Keys_map_int_api_Sector_int_api_Sector x0) := by
  refine sound_of [(0, .map x0)] Go.Proofs.Try.func56 rfl rfl (Nat.le_of_ble_eq_true rfl) (args_of ⟨rfl, trivial⟩) (fun w0 w Q R a hret hE hR H => ?_)
  unfold maps_Keys_map_int_api_Sector_int_api_Sector at H
  refine w_seq (fun K hK_1 => ?_)
  refine t_region ?_
  obtain ⟨x1_2, qx1_2, H⟩ := H
  refine t_valh (v := .pointer (some x1_2)) rfl rfl hE rfl hR (r_box hE rfl qx1_2) (fun a w hE hR hh => ?_)
  replace H := M.at hh H; clear hh
  refine t_val (v := Value.nilFunc) rfl rfl hE rfl (r_assign hE rfl) (fun a hE => ?_)
  refine t_nil ?_
  refine hK_1 _ _ ?_
  refine w_seq (fun K hK_3 => ?_)
  refine t_region ?_
  refine t_val (v := (Value.func (.func fn_maps_Keys_map_int_api_Sector_int_api_Sector_1) #[] #[.pointer (some x1_2)])) rfl rfl hE rfl (r_makeFunc hE rfl) (fun a hE => ?_)
  refine t_val (v := (Value.func (.func fn_maps_Keys_map_int_api_Sector_int_api_Sector_1) #[] #[.pointer (some x1_2)])) rfl rfl hE rfl (r_assign hE rfl) (fun a hE => ?_)
  refine t_nil ?_
  refine hK_3 _ _ ?_
  refine w_ret ?_
  exact hret _ _ _ (Value.func (.func fn_maps_Keys_map_int_api_Sector_int_api_Sector_1) #[] #[.pointer (some x1_2)]) _ hE hR (res_run hE rfl (RV.tmp rfl RV.nil)) rfl H

/-- (*ramble/disk.Disk).Dirty -/
def disk_Disk_Dirty (x0 : Option Addr) : M (Sl) := do
  let x4_4 ← disk_Disk_none x0
  M.ite x4_4 (do
    M.pure Sl.nil
    ) (do
    let x6_7 ← nilP x0
    let x8_8 ← ldMp ((x6_7).add 2)
    let x9_9 ← maps_Keys_map_int_api_Sector_int_api_Sector x8_8
    let x10_10 ← slices_Sorted_int x9_9
    M.pure x10_10
    )
theorem S_disk_Disk_Dirty (x0 : Option Addr) : Sound Go.Proofs.Try.prog 24 #[.pointer x0] (fun (r : Sl) => (r : Sl).v) (disk_Disk_Dirty x0) := by
  refine sound_of [(0, .pointer x0)] Go.Proofs.Try.func24 rfl rfl (Nat.le_of_ble_eq_true rfl) (args_of ⟨rfl, trivial⟩) (fun w0 w Q R a hret hE hR H => ?_)
  unfold disk_Disk_Dirty at H
  refine w_seq (fun K hK_1 => ?_)
  refine t_region ?_
  refine t_val (v := (Sl.nil : Sl).v) rfl rfl hE rfl (r_assign hE rfl) (fun a hE => ?_)
  refine t_nil ?_
  refine hK_1 _ _ ?_
  refine w_seq (fun K hK_2 => ?_)
  refine w_seq (fun K hK_3 => ?_)
  refine t_region ?_
  refine t_val (v := .pointer x0) rfl rfl hE rfl (r_move hE rfl) (fun a hE => ?_)
  refine t_call hE hR cl_disk_Disk_none rfl (S_disk_Disk_none x0) (M.unbind H) (fun x4_4 a w ea hR H => ?_)
  have hE := Env.put_some hE rfl ea; clear ea
  refine t_nil ?_
  refine hK_3 _ _ ?_
  refine w_cond x4_4 hE rfl (fun hb => ?_) (fun hb => ?_)
  · replace H := M.ite_t hb H
    refine w_seq (fun K hK_5 => ?_)
    refine t_region ?_
    refine t_val (v := (Sl.nil : Sl).v) rfl rfl hE rfl (r_assign hE rfl) (fun a hE => ?_)
    refine t_nil ?_
    refine hK_5 _ _ ?_
    refine w_ret ?_
    exact hret _ _ _ Sl.nil _ hE hR (res_run hE rfl (RV.tmp rfl RV.nil)) rfl H
  · replace H := M.ite_f hb H
    refine w_skip ?_
    refine hK_2 _ _ ?_
    refine w_seq (fun K hK_6 => ?_)
    refine t_region ?_
    refine t_val (v := .pointer x0) rfl rfl hE rfl (r_move hE rfl) (fun a hE => ?_)
    obtain ⟨x6_7, qx6_7, H⟩ := H
    refine t_val (v := .pointer (some x6_7)) rfl rfl hE rfl (r_nilCheck hE (hx_eq rfl (congrArg Value.pointer qx6_7))) (fun a hE => ?_)
    refine t_val (v := .pointer (some ((x6_7).add 2))) rfl rfl hE rfl (r_fieldAddr hE rfl fd66_2) (fun a hE => ?_)
    obtain ⟨x8_8, qx8_8, H⟩ := H
    refine t_val (v := .map x8_8) rfl rfl hE rfl (r_load hE rfl sc64 qx8_8) (fun a hE => ?_)
    refine t_call hE hR cl_maps_Keys_map_int_api_Sector_int_api_Sector rfl (S_maps_Keys_map_int_api_Sector_int_api_Sector x8_8) (M.unbind H) (fun x9_9 a w ea hR H => ?_)
    have hE := Env.put_some hE rfl ea; clear ea
    refine t_call hE hR cl_slices_Sorted_int rfl (S_slices_Sorted_int x9_9) (M.unbind H) (fun x10_10 a w ea hR H => ?_)
    have hE := Env.put_some hE rfl ea; clear ea
    refine t_val (v := (x10_10 : Sl).v) rfl rfl hE rfl (r_assign hE rfl) (fun a hE => ?_)
    refine t_nil ?_
    refine hK_6 _ _ ?_
    refine w_ret ?_
    exact hret _ _ _ x10_10 _ hE hR (res_run hE rfl (RV.tmp rfl RV.nil)) rfl H

/-- (*ramble/disk.Disk).decide -/
def disk_Disk_decide_j1 (self1 : (Sl × Int) → M (Unit)) (c12_21 : Int) (x6_15 : Sl) : M (Unit) := do
  self1 (x6_15, IntKind.wrap .i64 (c12_21 + 1))
def disk_Disk_decide_j2 (c0_34 : Option Addr) : M (Unit) := do
  let x55_35 ← nilP c0_34
  let x57_36 ← ldMp ((x55_35).add 2)
  let u_37 ← clM x57_36
  M.pure ()
theorem tb57_9 : tabAt Go.Proofs.Try.f57 9 [[], [0], [1], [2], [], [], [4, 5], [6], [3, 7, 0, 1, 2, 3, 4, 5, 6, 7], [8, 0, 1, 2, 3, 4, 5, 6, 7]] [[], [0], [1], [2], [], [], [4, 5], [6], [3, 7], [8]] [[], [0], [0, 1], [0, 1, 2], [], [], [4, 5], [4, 5, 6], [0, 1, 2, 3, 4, 5, 6, 7], [0, 1, 2, 3, 4, 5, 6, 7, 8]] = true := by kernel_rfl
def disk_Disk_decide_l1 (c0_7 : Option Addr) (c1_8 : Int) (c2_9 : Sl) (c10_10 : Sl) (c11_11 : Int) (self1 : (Sl × Int) → M (Unit)) : (Sl × Int) → M (Unit) := fun s => match s with
  | (x6_5, x12_6) => do
    M.ite (decide (x12_6 < c11_11)) (do
      let x15_23 ← ixL c10_10 x12_6 1
      let x16_24 ← ldI .i64 x15_23
      let x28_26 ← M.ite (decide ((c2_9.len : Int) > 0)) (do
        let x25_27 ← pRem x12_6 (c2_9.len : Int)
        let x26_28 ← ixL c2_9 x25_27 1
        let x27_29 ← ldB x26_28
        M.pure x27_29
        ) (do
        M.pure false
        )
      M.ite x28_26 (do
        let x31_31 ← disk_Disk_stay c0_7 x16_24
        let x34_32 ← bdL ty_int 1 #[.int .i64 x16_24]
        let x35_33 ← apL ty_int 1 8 (#[.int .i64 0] : Array Value) x6_5 x34_32
        disk_Disk_decide_j1 self1 x12_6 x35_33
        ) (do
        disk_Disk_decide_j1 self1 x12_6 x6_5
        )
      ) (do
      let x44_39 ← M.ite (decide (c1_8 ≥ 0)) (do
        M.pure (decide (c1_8 < (x6_5.len : Int)))
        ) (do
        M.pure false
        )
      M.ite x44_39 (do
        let x46_40 ← nilP c0_7
        let x51_41 ← ixL x6_5 c1_8 1
        let x48_42 ← ldL ((x46_40).add 1)
        let x52_43 ← ldI .i64 x51_41
        let x53_44 ← ixL x48_42 x52_43 1
        stV x53_44 (.bool true)
        disk_Disk_decide_j2 c0_7
        ) (do
        disk_Disk_decide_j2 c0_7
        )
      )
def disk_Disk_decide (x0 : Option Addr) (x1 : Int) (x2 : Sl) : M (Unit) := do
  let x10_4 ← disk_Disk_Dirty x0
  M.loop (disk_Disk_decide_l1 x0 x1 x2 x10_4 (x10_4.len : Int)) (Sl.nil, 0)
theorem S_disk_Disk_decide (x0 : Option Addr) (x1 : Int) (x2 : Sl) : Sound Go.Proofs.Try.prog 57 #[.pointer x0, .int .i64 x1, (x2 : Sl).v] (fun (r : Unit) => .tuple #[]) (disk_Disk_decide x0 x1 x2) := by
  refine sound_of [(0, .pointer x0), (1, .int .i64 x1), (2, (x2 : Sl).v)] Go.Proofs.Try.func57 rfl rfl (Nat.le_of_ble_eq_true rfl) (args_of ⟨rfl, rfl, rfl, trivial⟩) (fun w0 w Q R a hret hE hR H => ?_)
  unfold disk_Disk_decide at H
  refine w_seq (fun K hK_1 => ?_)
  refine t_region ?_
  refine t_val (v := (Sl.nil : Sl).v) rfl rfl hE rfl (r_assign hE rfl) (fun a hE => ?_)
  refine t_nil ?_
  refine hK_1 _ _ ?_
  refine w_seq (fun K hK_2 => ?_)
  refine w_seq (fun K hK_3 => ?_)
  refine t_region ?_
  refine t_val (v := .pointer x0) rfl rfl hE rfl (r_move hE rfl) (fun a hE => ?_)
  refine t_call hE hR cl_disk_Disk_Dirty rfl (S_disk_Disk_Dirty x0) (M.unbind H) (fun x10_4 a w ea hR H => ?_)
  have hE := Env.put_some hE rfl ea; clear ea
  refine t_val (v := .int .i64 (x10_4.len : Int)) rfl rfl hE rfl (r_len hE rfl 3 un54) (fun a hE => ?_)
  refine t_val (v := .int .i64 0) rfl rfl hE rfl (r_move hE rfl) (fun a hE => ?_)
  refine t_nil ?_
  refine hK_3 _ _ ?_
  refine w_block ?_
  refine l_loop (fun (s : Sl × Int) => (⟨58, []⟩ : Frm)) (fun (s : Sl × Int) => [(0, .pointer x0), (1, .int .i64 x1), (2, (x2 : Sl).v), (6, (s.1 : Sl).v), (10, (x10_4 : Sl).v), (11, .int .i64 (x10_4.len : Int)), (12, .int .i64 s.2)]) H (hE.cut (.cons rfl (.cons rfl (.cons rfl (.cons rfl (.cons rfl (.cons rfl (.cons rfl Subs.nil)))))))) hR (fun Y self1 hY_12 s a w hE hR H => ?_)
  rcases s with ⟨x6_5, x12_6⟩
  replace hE : Env (⟨58, []⟩ : Frm) a [(0, .pointer x0), (1, .int .i64 x1), (2, (x2 : Sl).v), (6, (x6_5 : Sl).v), (10, (x10_4 : Sl).v), (11, .int .i64 (x10_4.len : Int)), (12, .int .i64 x12_6)] := hE
  replace H : (disk_Disk_decide_l1 x0 x1 x2 x10_4 (x10_4.len : Int) self1 (x6_5, x12_6)).wp w.heap Q := H
  unfold disk_Disk_decide_l1 at H
  refine w_seq (fun K hK_13 => ?_)
  refine t_region ?_
  refine t_val (v := .bool (decide (x12_6 < (x10_4.len : Int)))) rfl rfl hE rfl (r_bin hE rfl rfl g_int b_lss) (fun a hE => ?_)
  refine t_nil ?_
  refine hK_13 _ _ ?_
  refine w_seq (fun K hK_14 => ?_)
  refine w_cond (decide (x12_6 < (x10_4.len : Int))) hE rfl (fun hb => ?_) (fun hb => ?_)
  · replace H := M.ite_t hb H
    refine w_skip ?_
    refine hK_14 _ _ ?_
    refine w_seq_join (fun a w => ∃ (x6_15 : Sl), Env (⟨58, []⟩ : Frm) a [(0, .pointer x0), (1, .int .i64 x1), (2, (x2 : Sl).v), (10, (x10_4 : Sl).v), (11, .int .i64 (x10_4.len : Int)), (12, .int .i64 x12_6), (6, (x6_15 : Sl).v)] ∧ Rest w0 w ∧ (disk_Disk_decide_j1 self1 x12_6 x6_15).wp w.heap Q) ?_ ?_
    · rintro a w ⟨x6_15, hE, hR, H⟩
      unfold disk_Disk_decide_j1 at H
      refine t_region ?_
      refine t_val (v := .int .i64 (IntKind.wrap .i64 (x12_6 + 1))) rfl rfl hE rfl (r_bin hE rfl rfl g_int b_add) (fun a hE => ?_)
      refine t_val (v := .int .i64 (IntKind.wrap .i64 (x12_6 + 1))) rfl rfl hE rfl (r_move hE rfl) (fun a hE => ?_)
      refine t_nil ?_
      exact hY_12 (x6_15, IntKind.wrap .i64 (x12_6 + 1)) _ _ (hE.cut (.cons rfl (.cons rfl (.cons rfl (.cons rfl (.cons rfl (.cons rfl (.cons rfl Subs.nil)))))))) hR H
    · skip
      refine w_block ?_
      refine w_seq (fun K hK_22 => ?_)
      refine t_region ?_
      refine t_val (v := .int .i64 x12_6) rfl rfl hE rfl (r_move hE rfl) (fun a hE => ?_)
      obtain ⟨x15_23, qx15_23, H⟩ := H
      refine t_val (v := .pointer (some x15_23)) rfl rfl hE rfl (r_indexAddrL hE rfl rfl un54 sz3 qx15_23) (fun a hE => ?_)
      obtain ⟨x16_24, qx16_24, H⟩ := H
      refine t_val (v := .int .i64 x16_24) rfl rfl hE rfl (r_load hE rfl sc3 qx16_24) (fun a hE => ?_)
      refine t_val (v := .int .i64 x12_6) rfl rfl hE rfl (r_assign hE rfl) (fun a hE => ?_)
      refine t_val (v := .int .i64 x16_24) rfl rfl hE rfl (r_assign hE rfl) (fun a hE => ?_)
      refine t_nil ?_
      refine hK_22 _ _ ?_
      refine w_seq (fun K hK_25 => ?_)
      refine t_region ?_
      refine t_val (v := (x2 : Sl).v) rfl rfl hE rfl (r_move hE rfl) (fun a hE => ?_)
      refine t_val (v := .int .i64 (x2.len : Int)) rfl rfl hE rfl (r_len hE rfl 4 un45) (fun a hE => ?_)
      refine t_val (v := .bool (decide ((x2.len : Int) > 0))) rfl rfl hE rfl (r_bin hE rfl rfl g_int b_gtr) (fun a hE => ?_)
      refine t_val (v := .bool (decide ((x2.len : Int) > 0))) rfl rfl hE rfl (r_move hE rfl) (fun a hE => ?_)
      refine t_grp (n := (⟨58, []⟩ : Frm)) (w0 := w0) 8 (fun x28_26 : Bool => [(0, .pointer x0), (1, .int .i64 x1), (2, (x2 : Sl).v), (10, (x10_4 : Sl).v), (11, .int .i64 (x10_4.len : Int)), (6, (x6_5 : Sl).v), (12, .int .i64 x12_6), (8, .int .i64 x16_24), (28, .bool x28_26)]) (M.unbind H) (fun Kr hKr H => ?_) ?_
      · rcases bool_em (decide ((x2.len : Int) > 0)) with hb | hb
        · replace H := M.ite_t hb H
          have hE := hE.reb 20 (decide ((x2.len : Int) > 0)) true hb rfl
          refine t_on rfl hE rfl rfl rfl ?_
          refine t_val (v := (x2 : Sl).v) rfl rfl hE rfl (r_move hE rfl) (fun a hE => ?_)
          refine t_on rfl hE rfl rfl rfl ?_
          refine t_val (v := .int .i64 x12_6) rfl rfl hE rfl (r_move hE rfl) (fun a hE => ?_)
          refine t_on rfl hE rfl rfl rfl ?_
          refine t_val (v := (x2 : Sl).v) rfl rfl hE rfl (r_move hE rfl) (fun a hE => ?_)
          refine t_on rfl hE rfl rfl rfl ?_
          refine t_val (v := .int .i64 (x2.len : Int)) rfl rfl hE rfl (r_len hE rfl 4 un45) (fun a hE => ?_)
          refine t_on rfl hE rfl rfl rfl ?_
          obtain ⟨x25_27, qx25_27, H⟩ := H
          refine t_val (v := .int .i64 x25_27) rfl rfl hE rfl (r_bin hE rfl rfl g_int (b_rem qx25_27)) (fun a hE => ?_)
          refine t_on rfl hE rfl rfl rfl ?_
          obtain ⟨x26_28, qx26_28, H⟩ := H
          refine t_val (v := .pointer (some x26_28)) rfl rfl hE rfl (r_indexAddrL hE rfl rfl un45 sz4 qx26_28) (fun a hE => ?_)
          refine t_on rfl hE rfl rfl rfl ?_
          obtain ⟨x27_29, qx27_29, H⟩ := H
          refine t_val (v := .bool x27_29) rfl rfl hE rfl (r_load hE rfl sc4 qx27_29) (fun a hE => ?_)
          refine t_val rfl rfl hE rfl (r_pick_t hE rfl rfl) (fun a hE => ?_)
          refine t_nil ?_
          exact hKr _ _ _ (hE.cut (.cons rfl (.cons rfl (.cons rfl (.cons rfl (.cons rfl (.cons rfl (.cons rfl (.cons rfl (.cons rfl Subs.nil)))))))))) hR H
        · replace H := M.ite_f hb H
          have hE := hE.reb 20 (decide ((x2.len : Int) > 0)) false hb rfl
          refine t_off rfl hE rfl rfl rfl (fun a ea => ?_)
          have hE := Env.put_some hE rfl ea; clear ea
          refine t_off rfl hE rfl rfl rfl (fun a ea => ?_)
          have hE := Env.put_some hE rfl ea; clear ea
          refine t_off rfl hE rfl rfl rfl (fun a ea => ?_)
          have hE := Env.put_some hE rfl ea; clear ea
          refine t_off rfl hE rfl rfl rfl (fun a ea => ?_)
          have hE := Env.put_some hE rfl ea; clear ea
          refine t_off rfl hE rfl rfl rfl (fun a ea => ?_)
          have hE := Env.put_some hE rfl ea; clear ea
          refine t_off rfl hE rfl rfl rfl (fun a ea => ?_)
          have hE := Env.put_some hE rfl ea; clear ea
          refine t_off rfl hE rfl rfl rfl (fun a ea => ?_)
          have hE := Env.put_some hE rfl ea; clear ea
          refine t_val rfl rfl hE rfl (r_pick_f hE rfl rfl) (fun a hE => ?_)
          refine t_nil ?_
          exact hKr _ _ _ (hE.cut (.cons rfl (.cons rfl (.cons rfl (.cons rfl (.cons rfl (.cons rfl (.cons rfl (.cons rfl (.cons rfl Subs.nil)))))))))) hR H
      · intro x28_26 a w hE hR H
        refine t_nil ?_
        refine hK_25 _ _ ?_
        refine w_cond x28_26 hE rfl (fun hb => ?_) (fun hb => ?_)
        · replace H := M.ite_t hb H
          refine w_seq (fun K hK_30 => ?_)
          refine t_region ?_
          refine t_val (v := .pointer x0) rfl rfl hE rfl (r_move hE rfl) (fun a hE => ?_)
          refine t_val (v := .int .i64 x16_24) rfl rfl hE rfl (r_move hE rfl) (fun a hE => ?_)
          refine t_call hE hR cl_disk_Disk_stay rfl (S_disk_Disk_stay x0 x16_24) (M.unbind H) (fun x31_31 a w ea hR H => ?_)
          have hE := Env.put_some hE rfl ea; clear ea
          refine t_nil ?_
          refine hK_30 _ _ ?_
          refine t_region ?_
          refine t_val (v := (x6_5 : Sl).v) rfl rfl hE rfl (r_move hE rfl) (fun a hE => ?_)
          refine t_val (v := .int .i64 x16_24) rfl rfl hE rfl (r_move hE rfl) (fun a hE => ?_)
          obtain ⟨x34_32, qx34_32, H⟩ := H
          refine t_valh (v := (x34_32 : Sl).v) rfl rfl hE rfl hR (r_buildL (cells := #[.int .i64 x16_24]) hE rfl un54 sz3 zr3 rfl rfl qx34_32) (fun a w hE hR hh => ?_)
          replace H := M.at hh H; clear hh
          refine t_ex (fun x35_33 => (x35_33 : Sl).v) rfl rfl hR (M.unbind H) (fun Q H => ap_run hE rfl rfl ap54 H) (fun x35_33 a w ea hR H => ?_)
          have hE := Env.put_some hE rfl ea; clear ea
          refine t_val (v := (x35_33 : Sl).v) rfl rfl hE rfl (r_assign hE rfl) (fun a hE => ?_)
          refine t_nil ?_
          exact ⟨x35_33, hE.cut (.cons rfl (.cons rfl (.cons rfl (.cons rfl (.cons rfl (.cons rfl (.cons rfl Subs.nil))))))), hR, H⟩
        · replace H := M.ite_f hb H
          refine w_skip ?_
          exact ⟨x6_5, hE.cut (.cons rfl (.cons rfl (.cons rfl (.cons rfl (.cons rfl (.cons rfl (.cons rfl Subs.nil))))))), hR, H⟩
  · replace H := M.ite_f hb H
    refine w_exit ?_
    refine Xu.same ?_
    refine hK_2 _ _ ?_
    refine w_seq_join (fun a w => Env (⟨58, []⟩ : Frm) a [(0, .pointer x0)] ∧ Rest w0 w ∧ (disk_Disk_decide_j2 x0).wp w.heap Q) ?_ ?_
    · rintro a w ⟨hE, hR, H⟩
      unfold disk_Disk_decide_j2 at H
      refine t_region ?_
      refine t_val (v := .pointer x0) rfl rfl hE rfl (r_move hE rfl) (fun a hE => ?_)
      obtain ⟨x55_35, qx55_35, H⟩ := H
      refine t_val (v := .pointer (some x55_35)) rfl rfl hE rfl (r_nilCheck hE (hx_eq rfl (congrArg Value.pointer qx55_35))) (fun a hE => ?_)
      refine t_val (v := .pointer (some ((x55_35).add 2))) rfl rfl hE rfl (r_fieldAddr hE rfl fd66_2) (fun a hE => ?_)
      obtain ⟨x57_36, qx57_36, H⟩ := H
      refine t_val (v := .map x57_36) rfl rfl hE rfl (r_load hE rfl sc64 qx57_36) (fun a hE => ?_)
      obtain ⟨u_37, qu_37, H⟩ := H
      refine t_valnh (v := .tuple #[]) rfl rfl hE hR (r_clearM hE rfl un64 qu_37) (fun a w hE hR hh => ?_)
      replace H := M.at hh H; clear hh
      refine t_nil ?_
      exact hret _ _ _ () _ hE hR (res_run hE rfl RV.nil) rfl H
    · skip
      refine w_seq (fun K hK_38 => ?_)
      refine t_region ?_
      refine t_val (v := .int .i64 x1) rfl rfl hE rfl (r_move hE rfl) (fun a hE => ?_)
      refine t_val (v := .bool (decide (x1 ≥ 0))) rfl rfl hE rfl (r_bin hE rfl rfl g_int b_geq) (fun a hE => ?_)
      refine t_val (v := .bool (decide (x1 ≥ 0))) rfl rfl hE rfl (r_move hE rfl) (fun a hE => ?_)
      refine t_grp (n := (⟨58, []⟩ : Frm)) (w0 := w0) 5 (fun x44_39 : Bool => [(0, .pointer x0), (1, .int .i64 x1), (6, (x6_5 : Sl).v), (44, .bool x44_39)]) (M.unbind H) (fun Kr hKr H => ?_) ?_
      · rcases bool_em (decide (x1 ≥ 0)) with hb | hb
        · replace H := M.ite_t hb H
          have hE := hE.reb 39 (decide (x1 ≥ 0)) true hb rfl
          refine t_on rfl hE rfl rfl rfl ?_
          refine t_val (v := .int .i64 x1) rfl rfl hE rfl (r_move hE rfl) (fun a hE => ?_)
          refine t_on rfl hE rfl rfl rfl ?_
          refine t_val (v := (x6_5 : Sl).v) rfl rfl hE rfl (r_move hE rfl) (fun a hE => ?_)
          refine t_on rfl hE rfl rfl rfl ?_
          refine t_val (v := .int .i64 (x6_5.len : Int)) rfl rfl hE rfl (r_len hE rfl 3 un54) (fun a hE => ?_)
          refine t_on rfl hE rfl rfl rfl ?_
          refine t_val (v := .bool (decide (x1 < (x6_5.len : Int)))) rfl rfl hE rfl (r_bin hE rfl rfl g_int b_lss) (fun a hE => ?_)
          refine t_val rfl rfl hE rfl (r_pick_t hE rfl rfl) (fun a hE => ?_)
          refine t_nil ?_
          exact hKr _ _ _ (hE.cut (.cons rfl (.cons rfl (.cons rfl (.cons rfl Subs.nil))))) hR H
        · replace H := M.ite_f hb H
          have hE := hE.reb 39 (decide (x1 ≥ 0)) false hb rfl
          refine t_off rfl hE rfl rfl rfl (fun a ea => ?_)
          have hE := Env.put_some hE rfl ea; clear ea
          refine t_off rfl hE rfl rfl rfl (fun a ea => ?_)
          have hE := Env.put_some hE rfl ea; clear ea
          refine t_off rfl hE rfl rfl rfl (fun a ea => ?_)
          have hE := Env.put_some hE rfl ea; clear ea
          refine t_off rfl hE rfl rfl rfl (fun a ea => ?_)
          have hE := Env.put_some hE rfl ea; clear ea
          refine t_val rfl rfl hE rfl (r_pick_f hE rfl rfl) (fun a hE => ?_)
          refine t_nil ?_
          exact hKr _ _ _ (hE.cut (.cons rfl (.cons rfl (.cons rfl (.cons rfl Subs.nil))))) hR H
      · intro x44_39 a w hE hR H
        refine t_nil ?_
        refine hK_38 _ _ ?_
        refine w_cond x44_39 hE rfl (fun hb => ?_) (fun hb => ?_)
        · replace H := M.ite_t hb H
          obtain ⟨x46_40, qx46_40, H⟩ := H
          obtain ⟨x51_41, qx51_41, H⟩ := H
          obtain ⟨x48_42, qx48_42, H⟩ := H
          obtain ⟨x52_43, qx52_43, H⟩ := H
          obtain ⟨x53_44, qx53_44, H⟩ := H
          have hT := tab_of tb57_9 rfl rfl
          refine d_start (fun w : World => (fun h : Heap => (hcell h ((x46_40).add 1) = some ((x48_42 : Sl).v)) ∧ (hcell h x51_41 = some (.int .i64 x52_43))) w.heap) [8, 9] #[false, false, false, false, false, false, false, false, false, false] mo hR rfl rfl (fun w' e => by rw [e]; exact ⟨qx48_42, qx52_43⟩) (fun w hh hR hs => ?_)
          replace H := M.at hh H; clear hh
          refine d_pureg (i := 0) (v := .pointer x0) #[true, false, false, false, false, false, false, false, false, false] rfl rfl hT (by kernel_rfl) hE rfl (wanted_none rfl) (fun w => r_move hE rfl) (fun a hE => ?_)
          refine d_pureg (i := 1) (v := .pointer (some x46_40)) #[true, true, false, false, false, false, false, false, false, false] rfl rfl hT (by kernel_rfl) hE rfl (wanted_none rfl) (fun w => r_nilCheck hE (hx_eq rfl (congrArg Value.pointer qx46_40))) (fun a hE => ?_)
          refine d_pureg (i := 2) (v := .pointer (some ((x46_40).add 1))) #[true, true, true, false, false, false, false, false, false, false] rfl rfl hT (by kernel_rfl) hE rfl (wanted_none rfl) (fun w => r_fieldAddr hE rfl fd66_1) (fun a hE => ?_)
          refine d_pureg (i := 4) (v := (x6_5 : Sl).v) #[true, true, true, false, true, false, false, false, false, false] rfl rfl hT (by kernel_rfl) hE rfl (wanted_none rfl) (fun w => r_move hE rfl) (fun a hE => ?_)
          refine d_pureg (i := 5) (v := .int .i64 x1) #[true, true, true, false, true, true, false, false, false, false] rfl rfl hT (by kernel_rfl) hE rfl (wanted_none rfl) (fun w => r_move hE rfl) (fun a hE => ?_)
          refine d_pureg (i := 6) (v := .pointer (some x51_41)) #[true, true, true, false, true, true, true, false, false, false] rfl rfl hT (by kernel_rfl) hE rfl (wanted_none rfl) (fun w => r_indexAddrL hE rfl rfl un54 sz3 qx51_41) (fun a hE => ?_)
          refine d_read (i := 3) (v := (x48_42 : Sl).v) #[true, true, true, true, true, true, true, false, false, false] rfl rfl hT (by kernel_rfl) hE rfl (wanted_none rfl) hs (fun w s => r_load hE rfl sc45 s.1) (fun a hE => ?_)
          refine d_read (i := 7) (v := .int .i64 x52_43) #[true, true, true, true, true, true, true, true, false, false] rfl rfl hT (by kernel_rfl) hE rfl (wanted_none rfl) hs (fun w s => r_load hE rfl sc3 s.2) (fun a hE => ?_)
          refine d_pureg (i := 8) (v := .pointer (some x53_44)) #[true, true, true, true, true, true, true, true, true, false] rfl rfl hT (by kernel_rfl) hE rfl (wanted_none rfl) (fun w => r_indexAddrL hE rfl rfl un45 sz4 qx53_44) (fun a hE => ?_)
          obtain ⟨u_45, qu_45, H⟩ := H
          refine d_stlh (i := 9) #[true, true, true, true, true, true, true, true, true, true] rfl rfl hT (by kernel_rfl) rfl hE hR (wanted_none rfl) (r_store hE rfl rfl sz4 qu_45)  (fun a w hE hR hh => ?_)
          replace H := M.at hh H; clear hh
          refine d_done hT (by kernel_rfl) ?_
          exact ⟨hE.cut (.cons rfl Subs.nil), hR, H⟩
        · replace H := M.ite_f hb H
          refine w_skip ?_
          exact ⟨hE.cut (.cons rfl Subs.nil), hR, H⟩

/-- (*ramble/disk.Disk).Crash -/
def disk_Disk_Crash (x0 : Option Addr) (x1 : Int) (x2 : Sl) : M (Int) := do
  let x9_4 ← disk_Disk_can x0
  M.ite (x9_4 != 0) (do
    M.pure x9_4
    ) (do
    let x15_8 ← nilP x0
    stV ((x15_8).add 3) (.bool true)
    let x17_10 ← nilP x0
    stV ((x17_10).add 4) (.int .i64 0)
    let x22_13 ← disk_Disk_decide x0 x1 x2
    M.pure 0
    )
theorem S_disk_Disk_Crash (x0 : Option Addr) (x1 : Int) (x2 : Sl) : Sound Go.Proofs.Try.prog 25 #[.pointer x0, .int .i64 x1, (x2 : Sl).v] (fun (r : Int) => .int .i64 r) (disk_Disk_Crash x0 x1 x2) := by
  refine sound_of [(0, .pointer x0), (1, .int .i64 x1), (2, (x2 : Sl).v)] Go.Proofs.Try.func25 rfl rfl (Nat.le_of_ble_eq_true rfl) (args_of ⟨rfl, rfl, rfl, trivial⟩) (fun w0 w Q R a hret hE hR H => ?_)
  unfold disk_Disk_Crash at H
  refine w_seq (fun K hK_1 => ?_)
  refine t_region ?_
  refine t_val (v := .int .i64 0) rfl rfl hE rfl (r_assign hE rfl) (fun a hE => ?_)
  refine t_nil ?_
  refine hK_1 _ _ ?_
  refine w_seq (fun K hK_2 => ?_)
  refine w_seq (fun K hK_3 => ?_)
  refine t_region ?_
  refine t_val (v := .pointer x0) rfl rfl hE rfl (r_move hE rfl) (fun a hE => ?_)
  refine t_call hE hR cl_disk_Disk_can rfl (S_disk_Disk_can x0) (M.unbind H) (fun x9_4 a w ea hR H => ?_)
  have hE := Env.put_some hE rfl ea; clear ea
  refine t_val (v := .int .i64 x9_4) rfl rfl hE rfl (r_assign hE rfl) (fun a hE => ?_)
  refine t_nil ?_
  refine hK_3 _ _ ?_
  refine w_seq (fun K hK_5 => ?_)
  refine t_region ?_
  refine t_val (v := .int .i64 x9_4) rfl rfl hE rfl (r_move hE rfl) (fun a hE => ?_)
  refine t_val (v := .bool (x9_4 != 0)) rfl rfl hE rfl (r_bin hE rfl rfl g_int b_neq) (fun a hE => ?_)
  refine t_nil ?_
  refine hK_5 _ _ ?_
  refine w_cond (x9_4 != 0) hE rfl (fun hb => ?_) (fun hb => ?_)
  · replace H := M.ite_t hb H
    refine w_seq (fun K hK_6 => ?_)
    refine t_region ?_
    refine t_val (v := .int .i64 x9_4) rfl rfl hE rfl (r_move hE rfl) (fun a hE => ?_)
    refine t_val (v := .int .i64 x9_4) rfl rfl hE rfl (r_assign hE rfl) (fun a hE => ?_)
    refine t_nil ?_
    refine hK_6 _ _ ?_
    refine w_ret ?_
    exact hret _ _ _ x9_4 _ hE hR (res_run hE rfl (RV.tmp rfl RV.nil)) rfl H
  · replace H := M.ite_f hb H
    refine w_skip ?_
    refine hK_2 _ _ ?_
    refine w_seq (fun K hK_7 => ?_)
    refine t_region ?_
    refine t_val (v := .pointer x0) rfl rfl hE rfl (r_move hE rfl) (fun a hE => ?_)
    refine t_val (v := .pointer x0) rfl rfl hE rfl (r_move hE rfl) (fun a hE => ?_)
    obtain ⟨x15_8, qx15_8, H⟩ := H
    refine t_val (v := .pointer (some x15_8)) rfl rfl hE rfl (r_nilCheck hE (hx_eq rfl (congrArg Value.pointer qx15_8))) (fun a hE => ?_)
    refine t_val (v := .pointer (some ((x15_8).add 3))) rfl rfl hE rfl (r_fieldAddr hE rfl fd66_3) (fun a hE => ?_)
    obtain ⟨u_9, qu_9, H⟩ := H
    refine t_sth rfl rfl hE hR (r_store hE rfl rfl sz4 qu_9) (fun a w hE hR hh => ?_)
    replace H := M.at hh H; clear hh
    obtain ⟨x17_10, qx17_10, H⟩ := H
    refine t_val (v := .pointer (some x17_10)) rfl rfl hE rfl (r_nilCheck hE (hx_eq rfl (congrArg Value.pointer qx17_10))) (fun a hE => ?_)
    refine t_val (v := .pointer (some ((x17_10).add 4))) rfl rfl hE rfl (r_fieldAddr hE rfl fd66_4) (fun a hE => ?_)
    obtain ⟨u_11, qu_11, H⟩ := H
    refine t_sth rfl rfl hE hR (r_store hE rfl rfl sz3 qu_11) (fun a w hE hR hh => ?_)
    replace H := M.at hh H; clear hh
    refine t_nil ?_
    refine hK_7 _ _ ?_
    refine w_seq (fun K hK_12 => ?_)
    refine t_region ?_
    refine t_val (v := .pointer x0) rfl rfl hE rfl (r_move hE rfl) (fun a hE => ?_)
    refine t_val (v := .int .i64 x1) rfl rfl hE rfl (r_move hE rfl) (fun a hE => ?_)
    refine t_val (v := (x2 : Sl).v) rfl rfl hE rfl (r_move hE rfl) (fun a hE => ?_)
    refine t_call hE hR cl_disk_Disk_decide rfl (S_disk_Disk_decide x0 x1 x2) (M.unbind H) (fun x22_13 a w ea hR H => ?_)
    have hE := Env.put_some hE rfl ea; clear ea
    refine t_nil ?_
    refine hK_12 _ _ ?_
    refine w_seq (fun K hK_14 => ?_)
    refine t_region ?_
    refine t_val (v := .int .i64 0) rfl rfl hE rfl (r_assign hE rfl) (fun a hE => ?_)
    refine t_nil ?_
    refine hK_14 _ _ ?_
    refine w_ret ?_
    exact hret _ _ _ 0 _ hE hR (res_run hE rfl (RV.tmp rfl RV.nil)) rfl H

/-- (*ramble/disk.Disk).Start -/
def disk_Disk_Start (x0 : Option Addr) (x1 : Int) (x2 : Sl) : M (Int) := do
  let x9_4 ← disk_Disk_none x0
  M.ite x9_4 (do
    M.pure 2
    ) (do
    let x12_7 ← nilP x0
    let x14_8 ← ldB ((x12_7).add 3)
    M.ite (!x14_8) (do
      M.pure 1
      ) (do
      let x17_11 ← nilP x0
      stV ((x17_11).add 3) (.bool false)
      let x22_14 ← disk_Disk_decide x0 x1 x2
      M.pure 0
      )
    )
theorem S_disk_Disk_Start (x0 : Option Addr) (x1 : Int) (x2 : Sl) : Sound Go.Proofs.Try.prog 26 #[.pointer x0, .int .i64 x1, (x2 : Sl).v] (fun (r : Int) => .int .i64 r) (disk_Disk_Start x0 x1 x2) := by
  refine sound_of [(0, .pointer x0), (1, .int .i64 x1), (2, (x2 : Sl).v)] Go.Proofs.Try.func26 rfl rfl (Nat.le_of_ble_eq_true rfl) (args_of ⟨rfl, rfl, rfl, trivial⟩) (fun w0 w Q R a hret hE hR H => ?_)
  unfold disk_Disk_Start at H
  refine w_seq (fun K hK_1 => ?_)
  refine t_region ?_
  refine t_val (v := .int .i64 0) rfl rfl hE rfl (r_assign hE rfl) (fun a hE => ?_)
  refine t_nil ?_
  refine hK_1 _ _ ?_
  refine w_seq (fun K hK_2 => ?_)
  refine w_block ?_
  refine w_seq (fun K hK_3 => ?_)
  refine t_region ?_
  refine t_val (v := .pointer x0) rfl rfl hE rfl (r_move hE rfl) (fun a hE => ?_)
  refine t_call hE hR cl_disk_Disk_none rfl (S_disk_Disk_none x0) (M.unbind H) (fun x9_4 a w ea hR H => ?_)
  have hE := Env.put_some hE rfl ea; clear ea
  refine t_val (v := .bool x9_4) rfl rfl hE rfl (r_assign hE rfl) (fun a hE => ?_)
  refine t_nil ?_
  refine hK_3 _ _ ?_
  refine w_cond x9_4 hE rfl (fun hb => ?_) (fun hb => ?_)
  · replace H := M.ite_t hb H
    refine w_seq (fun K hK_5 => ?_)
    refine t_region ?_
    refine t_val (v := .int .i64 2) rfl rfl hE rfl (r_assign hE rfl) (fun a hE => ?_)
    refine t_nil ?_
    refine hK_5 _ _ ?_
    refine w_ret ?_
    exact hret _ _ _ 2 _ hE hR (res_run hE rfl (RV.tmp rfl RV.nil)) rfl H
  · replace H := M.ite_f hb H
    refine w_seq (fun K hK_6 => ?_)
    refine t_region ?_
    refine t_val (v := .pointer x0) rfl rfl hE rfl (r_move hE rfl) (fun a hE => ?_)
    obtain ⟨x12_7, qx12_7, H⟩ := H
    refine t_val (v := .pointer (some x12_7)) rfl rfl hE rfl (r_nilCheck hE (hx_eq rfl (congrArg Value.pointer qx12_7))) (fun a hE => ?_)
    refine t_val (v := .pointer (some ((x12_7).add 3))) rfl rfl hE rfl (r_fieldAddr hE rfl fd66_3) (fun a hE => ?_)
    obtain ⟨x14_8, qx14_8, H⟩ := H
    refine t_val (v := .bool x14_8) rfl rfl hE rfl (r_load hE rfl sc4 qx14_8) (fun a hE => ?_)
    refine t_val (v := .bool (!x14_8)) rfl rfl hE rfl (r_un hE rfl u_not) (fun a hE => ?_)
    refine t_val (v := .bool (!x14_8)) rfl rfl hE rfl (r_assign hE rfl) (fun a hE => ?_)
    refine t_nil ?_
    refine hK_6 _ _ ?_
    refine w_cond (!x14_8) hE rfl (fun hb => ?_) (fun hb => ?_)
    · replace H := M.ite_t hb H
      refine w_seq (fun K hK_9 => ?_)
      refine t_region ?_
      refine t_val (v := .int .i64 1) rfl rfl hE rfl (r_assign hE rfl) (fun a hE => ?_)
      refine t_nil ?_
      refine hK_9 _ _ ?_
      refine w_ret ?_
      exact hret _ _ _ 1 _ hE hR (res_run hE rfl (RV.tmp rfl RV.nil)) rfl H
    · replace H := M.ite_f hb H
      refine w_skip ?_
      refine hK_2 _ _ ?_
      refine w_seq (fun K hK_10 => ?_)
      refine t_region ?_
      refine t_val (v := .pointer x0) rfl rfl hE rfl (r_move hE rfl) (fun a hE => ?_)
      obtain ⟨x17_11, qx17_11, H⟩ := H
      refine t_val (v := .pointer (some x17_11)) rfl rfl hE rfl (r_nilCheck hE (hx_eq rfl (congrArg Value.pointer qx17_11))) (fun a hE => ?_)
      refine t_val (v := .pointer (some ((x17_11).add 3))) rfl rfl hE rfl (r_fieldAddr hE rfl fd66_3) (fun a hE => ?_)
      obtain ⟨u_12, qu_12, H⟩ := H
      refine t_sth rfl rfl hE hR (r_store hE rfl rfl sz4 qu_12) (fun a w hE hR hh => ?_)
      replace H := M.at hh H; clear hh
      refine t_nil ?_
      refine hK_10 _ _ ?_
      refine w_seq (fun K hK_13 => ?_)
      refine t_region ?_
      refine t_val (v := .pointer x0) rfl rfl hE rfl (r_move hE rfl) (fun a hE => ?_)
      refine t_val (v := .int .i64 x1) rfl rfl hE rfl (r_move hE rfl) (fun a hE => ?_)
      refine t_val (v := (x2 : Sl).v) rfl rfl hE rfl (r_move hE rfl) (fun a hE => ?_)
      refine t_call hE hR cl_disk_Disk_decide rfl (S_disk_Disk_decide x0 x1 x2) (M.unbind H) (fun x22_14 a w ea hR H => ?_)
      have hE := Env.put_some hE rfl ea; clear ea
      refine t_nil ?_
      refine hK_13 _ _ ?_
      refine w_seq (fun K hK_15 => ?_)
      refine t_region ?_
      refine t_val (v := .int .i64 0) rfl rfl hE rfl (r_assign hE rfl) (fun a hE => ?_)
      refine t_nil ?_
      refine hK_15 _ _ ?_
      refine w_ret ?_
      exact hret _ _ _ 0 _ hE hR (res_run hE rfl (RV.tmp rfl RV.nil)) rfl H

end Gx
namespace Gx
open Go
set_option linter.unusedVariables false
set_option maxRecDepth 100000
/-- ramble/ramblelaw04.begun -/
def ramblelaw04_begun_j1 (x0_29 : Bool) : M (Bool) := do
  M.pure x0_29
theorem tb20_6 : tabAt Go.Proofs.Try.f20 6 [[], [], [0, 1], [2, 1], [3], [4, 3], [3, 5], [6, 3], [7], [8, 7], [7, 9], [10, 7, 0, 1, 2, 3, 4, 5, 6, 7, 8, 9, 10]] [[], [], [0, 1], [2], [3], [3, 4], [3, 5], [6], [7], [7, 8], [7, 9], [10]] [[], [], [0, 1], [0, 1, 2], [0, 1, 2, 3], [0, 1, 2, 3, 4], [0, 1, 2, 3, 4, 5], [0, 1, 2, 3, 4, 5, 6], [0, 1, 2, 3, 4, 5, 6, 7], [0, 1, 2, 3, 4, 5, 6, 7, 8], [0, 1, 2, 3, 4, 5, 6, 7, 8, 9], [0, 1, 2, 3, 4, 5, 6, 7, 8, 9, 10]] = true := by kernel_rfl
def ramblelaw04_begun  : M (Bool) := do
  let x7_3 ← disk_New 9
  let x15_6 ← M.ite ((x7_3.1).isNone) (do
    M.pure true
    ) (do
    M.pure (x7_3.2 != 0)
    )
  let x21_7 ← M.ite x15_6 (do
    M.pure true
    ) (do
    let x18_8 ← ramblelaw04_filled 1
    let x19_9 ← disk_Disk_Write x7_3.1 3 x18_8
    M.pure (x19_9 != 0)
    )
  let x27_10 ← M.ite x21_7 (do
    M.pure true
    ) (do
    let x24_11 ← ramblelaw04_filled 2
    let x25_12 ← disk_Disk_Write x7_3.1 5 x24_11
    M.pure (x25_12 != 0)
    )
  let x33_13 ← M.ite x27_10 (do
    M.pure true
    ) (do
    let x30_14 ← bdL ty_bool 1 #[.bool true]
    let x31_15 ← disk_Disk_Crash x7_3.1 1 x30_14
    M.pure (x31_15 != 0)
    )
  let x38_16 ← M.ite x33_13 (do
    M.pure true
    ) (do
    let x36_17 ← disk_Disk_Down x7_3.1
    M.pure (!x36_17)
    )
  let x43_18 ← M.ite x38_16 (do
    M.pure true
    ) (do
    let x41_19 ← disk_Disk_Start x7_3.1 0 Sl.nil
    M.pure (x41_19 != 0)
    )
  M.ite x43_18 (do
    M.pure false
    ) (do
    let x46_22 ← disk_Disk_Read x7_3.1 3
    let x3_23 ← mkB ty_api_Sector (Array.replicate 128 (.int .u8 0) : Array Value)
    M.need (x46_22.1.size = 128)
    stG x3_23 x46_22.1
    let x51_26 ← disk_Disk_Read x7_3.1 5
    let x4_27 ← mkB ty_api_Sector (Array.replicate 128 (.int .u8 0) : Array Value)
    M.need (x51_26.1.size = 128)
    stG x4_27 x51_26.1
    let x54_30 ← ldG 128 x3_23
    let x55_31 ← ramblelaw04_filled 1
    chk (fun h : Heap => (x54_30.size = 128 ∧ ∀ i, i < 128 → hcell h (Addr.add x3_23 i) = x54_30[i]?))
    let x56_32 ← eqA .u8 128 x54_30 x55_31
    M.ite x56_32 (do
      M.ite (x46_22.2 == 0) (do
        ramblelaw04_begun_j1 (x51_26.2 == 40)
        ) (do
        ramblelaw04_begun_j1 false
        )
      ) (do
      ramblelaw04_begun_j1 false
      )
    )
theorem S_ramblelaw04_begun  : Sound Go.Proofs.Try.prog 20 #[] (fun (r : Bool) => .bool r) (ramblelaw04_begun ) := by
  refine sound_of [] Go.Proofs.Try.func20 rfl rfl (Nat.le_of_ble_eq_true rfl) (args_of trivial) (fun w0 w Q R a hret hE hR H => ?_)
  unfold ramblelaw04_begun at H
  refine w_seq (fun K hK_1 => ?_)
  refine t_region ?_
  refine t_val (v := .bool false) rfl rfl hE rfl (r_assign hE rfl) (fun a hE => ?_)
  refine t_nil ?_
  refine hK_1 _ _ ?_
  refine w_seq (fun K hK_2 => ?_)
  refine t_region ?_
  refine t_call hE hR cl_disk_New rfl (S_disk_New 9) (M.unbind H) (fun x7_3 a w ea hR H => ?_)
  have hE := Env.put_some hE rfl ea; clear ea
  refine t_val (v := .tuple #[.pointer x7_3.1, .int .i64 x7_3.2]) rfl rfl hE rfl (r_move hE rfl) (fun a hE => ?_)
  refine t_val (v := .pointer x7_3.1) rfl rfl hE rfl (r_extract hE rfl rfl) (fun a hE => ?_)
  refine t_val (v := .int .i64 x7_3.2) rfl rfl hE rfl (r_extract hE rfl rfl) (fun a hE => ?_)
  refine t_val (v := .pointer x7_3.1) rfl rfl hE rfl (r_assign hE rfl) (fun a hE => ?_)
  refine t_val (v := .int .i64 x7_3.2) rfl rfl hE rfl (r_assign hE rfl) (fun a hE => ?_)
  refine t_nil ?_
  refine hK_2 _ _ ?_
  refine w_seq (fun K hK_4 => ?_)
  refine w_seq (fun K hK_5 => ?_)
  refine t_region ?_
  refine t_val (v := .pointer x7_3.1) rfl rfl hE rfl (r_move hE rfl) (fun a hE => ?_)
  refine t_val (v := .bool ((x7_3.1).isNone)) rfl rfl hE rfl (r_bin hE rfl rfl g_ptr (b_eqlP un23)) (fun a hE => ?_)
  refine t_val (v := .bool ((x7_3.1).isNone)) rfl rfl hE rfl (r_move hE rfl) (fun a hE => ?_)
  refine t_grp (n := (⟨65, []⟩ : Frm)) (w0 := w0) 3 (fun x15_6 : Bool => [(1, .pointer x7_3.1), (15, .bool x15_6)]) (M.unbind H) (fun Kr hKr H => ?_) ?_
  · rcases bool_em ((x7_3.1).isNone) with hb | hb
    · replace H := M.ite_t hb H
      have hE := hE.reb 12 ((x7_3.1).isNone) true hb rfl
      refine t_off rfl hE rfl rfl rfl (fun a ea => ?_)
      have hE := Env.put_some hE rfl ea; clear ea
      refine t_off rfl hE rfl rfl rfl (fun a ea => ?_)
      have hE := Env.put_some hE rfl ea; clear ea
      refine t_val rfl rfl hE rfl (r_pick_t hE rfl rfl) (fun a hE => ?_)
      refine t_nil ?_
      exact hKr _ _ _ (hE.cut (.cons rfl (.cons rfl Subs.nil))) hR H
    · replace H := M.ite_f hb H
      have hE := hE.reb 12 ((x7_3.1).isNone) false hb rfl
      refine t_on rfl hE rfl rfl rfl ?_
      refine t_val (v := .int .i64 x7_3.2) rfl rfl hE rfl (r_move hE rfl) (fun a hE => ?_)
      refine t_on rfl hE rfl rfl rfl ?_
      refine t_val (v := .bool (x7_3.2 != 0)) rfl rfl hE rfl (r_bin hE rfl rfl g_int b_neq) (fun a hE => ?_)
      refine t_val rfl rfl hE rfl (r_pick_f hE rfl rfl) (fun a hE => ?_)
      refine t_nil ?_
      exact hKr _ _ _ (hE.cut (.cons rfl (.cons rfl Subs.nil))) hR H
  · intro x15_6 a w hE hR H
    refine t_val (v := .bool x15_6) rfl rfl hE rfl (r_move hE rfl) (fun a hE => ?_)
    refine t_grp (n := (⟨65, []⟩ : Frm)) (w0 := w0) 5 (fun x21_7 : Bool => [(1, .pointer x7_3.1), (21, .bool x21_7)]) (M.unbind H) (fun Kr hKr H => ?_) ?_
    · rcases bool_em x15_6 with hb | hb
      · replace H := M.ite_t hb H
        have hE := hE.reb 16 x15_6 true hb rfl
        refine t_off rfl hE rfl rfl rfl (fun a ea => ?_)
        have hE := Env.put_some hE rfl ea; clear ea
        refine t_off rfl hE rfl rfl rfl (fun a ea => ?_)
        have hE := Env.put_some hE rfl ea; clear ea
        refine t_off rfl hE rfl rfl rfl (fun a ea => ?_)
        have hE := Env.put_some hE rfl ea; clear ea
        refine t_off rfl hE rfl rfl rfl (fun a ea => ?_)
        have hE := Env.put_some hE rfl ea; clear ea
        refine t_val rfl rfl hE rfl (r_pick_t hE rfl rfl) (fun a hE => ?_)
        refine t_nil ?_
        exact hKr _ _ _ (hE.cut (.cons rfl (.cons rfl Subs.nil))) hR H
      · replace H := M.ite_f hb H
        have hE := hE.reb 16 x15_6 false hb rfl
        refine t_on rfl hE rfl rfl rfl ?_
        refine t_val (v := .pointer x7_3.1) rfl rfl hE rfl (r_move hE rfl) (fun a hE => ?_)
        refine t_on rfl hE rfl rfl rfl ?_
        refine t_call hE hR cl_ramblelaw04_filled rfl (S_ramblelaw04_filled 1) (M.unbind H) (fun x18_8 a w ea hR H => ?_)
        have hE := Env.put_some hE rfl ea; clear ea
        refine t_on rfl hE rfl rfl rfl ?_
        refine t_call hE hR cl_disk_Disk_Write rfl (S_disk_Disk_Write x7_3.1 3 x18_8) (M.unbind H) (fun x19_9 a w ea hR H => ?_)
        have hE := Env.put_some hE rfl ea; clear ea
        refine t_on rfl hE rfl rfl rfl ?_
        refine t_val (v := .bool (x19_9 != 0)) rfl rfl hE rfl (r_bin hE rfl rfl g_int b_neq) (fun a hE => ?_)
        refine t_val rfl rfl hE rfl (r_pick_f hE rfl rfl) (fun a hE => ?_)
        refine t_nil ?_
        exact hKr _ _ _ (hE.cut (.cons rfl (.cons rfl Subs.nil))) hR H
    · intro x21_7 a w hE hR H
      refine t_val (v := .bool x21_7) rfl rfl hE rfl (r_move hE rfl) (fun a hE => ?_)
      refine t_grp (n := (⟨65, []⟩ : Frm)) (w0 := w0) 5 (fun x27_10 : Bool => [(1, .pointer x7_3.1), (27, .bool x27_10)]) (M.unbind H) (fun Kr hKr H => ?_) ?_
      · rcases bool_em x21_7 with hb | hb
        · replace H := M.ite_t hb H
          have hE := hE.reb 22 x21_7 true hb rfl
          refine t_off rfl hE rfl rfl rfl (fun a ea => ?_)
          have hE := Env.put_some hE rfl ea; clear ea
          refine t_off rfl hE rfl rfl rfl (fun a ea => ?_)
          have hE := Env.put_some hE rfl ea; clear ea
          refine t_off rfl hE rfl rfl rfl (fun a ea => ?_)
          have hE := Env.put_some hE rfl ea; clear ea
          refine t_off rfl hE rfl rfl rfl (fun a ea => ?_)
          have hE := Env.put_some hE rfl ea; clear ea
          refine t_val rfl rfl hE rfl (r_pick_t hE rfl rfl) (fun a hE => ?_)
          refine t_nil ?_
          exact hKr _ _ _ (hE.cut (.cons rfl (.cons rfl Subs.nil))) hR H
        · replace H := M.ite_f hb H
          have hE := hE.reb 22 x21_7 false hb rfl
          refine t_on rfl hE rfl rfl rfl ?_
          refine t_val (v := .pointer x7_3.1) rfl rfl hE rfl (r_move hE rfl) (fun a hE => ?_)
          refine t_on rfl hE rfl rfl rfl ?_
          refine t_call hE hR cl_ramblelaw04_filled rfl (S_ramblelaw04_filled 2) (M.unbind H) (fun x24_11 a w ea hR H => ?_)
          have hE := Env.put_some hE rfl ea; clear ea
          refine t_on rfl hE rfl rfl rfl ?_
          refine t_call hE hR cl_disk_Disk_Write rfl (S_disk_Disk_Write x7_3.1 5 x24_11) (M.unbind H) (fun x25_12 a w ea hR H => ?_)
          have hE := Env.put_some hE rfl ea; clear ea
          refine t_on rfl hE rfl rfl rfl ?_
          refine t_val (v := .bool (x25_12 != 0)) rfl rfl hE rfl (r_bin hE rfl rfl g_int b_neq) (fun a hE => ?_)
          refine t_val rfl rfl hE rfl (r_pick_f hE rfl rfl) (fun a hE => ?_)
          refine t_nil ?_
          exact hKr _ _ _ (hE.cut (.cons rfl (.cons rfl Subs.nil))) hR H
      · intro x27_10 a w hE hR H
        refine t_val (v := .bool x27_10) rfl rfl hE rfl (r_move hE rfl) (fun a hE => ?_)
        refine t_grp (n := (⟨65, []⟩ : Frm)) (w0 := w0) 5 (fun x33_13 : Bool => [(1, .pointer x7_3.1), (33, .bool x33_13)]) (M.unbind H) (fun Kr hKr H => ?_) ?_
        · rcases bool_em x27_10 with hb | hb
          · replace H := M.ite_t hb H
            have hE := hE.reb 28 x27_10 true hb rfl
            refine t_off rfl hE rfl rfl rfl (fun a ea => ?_)
            have hE := Env.put_some hE rfl ea; clear ea
            refine t_off rfl hE rfl rfl rfl (fun a ea => ?_)
            have hE := Env.put_some hE rfl ea; clear ea
            refine t_off rfl hE rfl rfl rfl (fun a ea => ?_)
            have hE := Env.put_some hE rfl ea; clear ea
            refine t_off rfl hE rfl rfl rfl (fun a ea => ?_)
            have hE := Env.put_some hE rfl ea; clear ea
            refine t_val rfl rfl hE rfl (r_pick_t hE rfl rfl) (fun a hE => ?_)
            refine t_nil ?_
            exact hKr _ _ _ (hE.cut (.cons rfl (.cons rfl Subs.nil))) hR H
          · replace H := M.ite_f hb H
            have hE := hE.reb 28 x27_10 false hb rfl
            refine t_on rfl hE rfl rfl rfl ?_
            refine t_val (v := .pointer x7_3.1) rfl rfl hE rfl (r_move hE rfl) (fun a hE => ?_)
            refine t_on rfl hE rfl rfl rfl ?_
            obtain ⟨x30_14, qx30_14, H⟩ := H
            refine t_valh (v := (x30_14 : Sl).v) rfl rfl hE rfl hR (r_buildL (cells := #[.bool true]) hE rfl un45 sz4 zr4 rfl rfl qx30_14) (fun a w hE hR hh => ?_)
            replace H := M.at hh H; clear hh
            refine t_on rfl hE rfl rfl rfl ?_
            refine t_call hE hR cl_disk_Disk_Crash rfl (S_disk_Disk_Crash x7_3.1 1 x30_14) (M.unbind H) (fun x31_15 a w ea hR H => ?_)
            have hE := Env.put_some hE rfl ea; clear ea
            refine t_on rfl hE rfl rfl rfl ?_
            refine t_val (v := .bool (x31_15 != 0)) rfl rfl hE rfl (r_bin hE rfl rfl g_int b_neq) (fun a hE => ?_)
            refine t_val rfl rfl hE rfl (r_pick_f hE rfl rfl) (fun a hE => ?_)
            refine t_nil ?_
            exact hKr _ _ _ (hE.cut (.cons rfl (.cons rfl Subs.nil))) hR H
        · intro x33_13 a w hE hR H
          refine t_val (v := .bool x33_13) rfl rfl hE rfl (r_move hE rfl) (fun a hE => ?_)
          refine t_grp (n := (⟨65, []⟩ : Frm)) (w0 := w0) 4 (fun x38_16 : Bool => [(1, .pointer x7_3.1), (38, .bool x38_16)]) (M.unbind H) (fun Kr hKr H => ?_) ?_
          · rcases bool_em x33_13 with hb | hb
            · replace H := M.ite_t hb H
              have hE := hE.reb 34 x33_13 true hb rfl
              refine t_off rfl hE rfl rfl rfl (fun a ea => ?_)
              have hE := Env.put_some hE rfl ea; clear ea
              refine t_off rfl hE rfl rfl rfl (fun a ea => ?_)
              have hE := Env.put_some hE rfl ea; clear ea
              refine t_off rfl hE rfl rfl rfl (fun a ea => ?_)
              have hE := Env.put_some hE rfl ea; clear ea
              refine t_val rfl rfl hE rfl (r_pick_t hE rfl rfl) (fun a hE => ?_)
              refine t_nil ?_
              exact hKr _ _ _ (hE.cut (.cons rfl (.cons rfl Subs.nil))) hR H
            · replace H := M.ite_f hb H
              have hE := hE.reb 34 x33_13 false hb rfl
              refine t_on rfl hE rfl rfl rfl ?_
              refine t_val (v := .pointer x7_3.1) rfl rfl hE rfl (r_move hE rfl) (fun a hE => ?_)
              refine t_on rfl hE rfl rfl rfl ?_
              refine t_call hE hR cl_disk_Disk_Down rfl (S_disk_Disk_Down x7_3.1) (M.unbind H) (fun x36_17 a w ea hR H => ?_)
              have hE := Env.put_some hE rfl ea; clear ea
              refine t_on rfl hE rfl rfl rfl ?_
              refine t_val (v := .bool (!x36_17)) rfl rfl hE rfl (r_un hE rfl u_not) (fun a hE => ?_)
              refine t_val rfl rfl hE rfl (r_pick_f hE rfl rfl) (fun a hE => ?_)
              refine t_nil ?_
              exact hKr _ _ _ (hE.cut (.cons rfl (.cons rfl Subs.nil))) hR H
          · intro x38_16 a w hE hR H
            refine t_val (v := .bool x38_16) rfl rfl hE rfl (r_move hE rfl) (fun a hE => ?_)
            refine t_grp (n := (⟨65, []⟩ : Frm)) (w0 := w0) 4 (fun x43_18 : Bool => [(1, .pointer x7_3.1), (43, .bool x43_18)]) (M.unbind H) (fun Kr hKr H => ?_) ?_
            · rcases bool_em x38_16 with hb | hb
              · replace H := M.ite_t hb H
                have hE := hE.reb 39 x38_16 true hb rfl
                refine t_off rfl hE rfl rfl rfl (fun a ea => ?_)
                have hE := Env.put_some hE rfl ea; clear ea
                refine t_off rfl hE rfl rfl rfl (fun a ea => ?_)
                have hE := Env.put_some hE rfl ea; clear ea
                refine t_off rfl hE rfl rfl rfl (fun a ea => ?_)
                have hE := Env.put_some hE rfl ea; clear ea
                refine t_val rfl rfl hE rfl (r_pick_t hE rfl rfl) (fun a hE => ?_)
                refine t_nil ?_
                exact hKr _ _ _ (hE.cut (.cons rfl (.cons rfl Subs.nil))) hR H
              · replace H := M.ite_f hb H
                have hE := hE.reb 39 x38_16 false hb rfl
                refine t_on rfl hE rfl rfl rfl ?_
                refine t_val (v := .pointer x7_3.1) rfl rfl hE rfl (r_move hE rfl) (fun a hE => ?_)
                refine t_on rfl hE rfl rfl rfl ?_
                refine t_call hE hR cl_disk_Disk_Start rfl (S_disk_Disk_Start x7_3.1 0 Sl.nil) (M.unbind H) (fun x41_19 a w ea hR H => ?_)
                have hE := Env.put_some hE rfl ea; clear ea
                refine t_on rfl hE rfl rfl rfl ?_
                refine t_val (v := .bool (x41_19 != 0)) rfl rfl hE rfl (r_bin hE rfl rfl g_int b_neq) (fun a hE => ?_)
                refine t_val rfl rfl hE rfl (r_pick_f hE rfl rfl) (fun a hE => ?_)
                refine t_nil ?_
                exact hKr _ _ _ (hE.cut (.cons rfl (.cons rfl Subs.nil))) hR H
            · intro x43_18 a w hE hR H
              refine t_nil ?_
              refine hK_5 _ _ ?_
              refine w_cond x43_18 hE rfl (fun hb => ?_) (fun hb => ?_)
              · replace H := M.ite_t hb H
                refine w_seq (fun K hK_20 => ?_)
                refine t_region ?_
                refine t_val (v := .bool false) rfl rfl hE rfl (r_assign hE rfl) (fun a hE => ?_)
                refine t_nil ?_
                refine hK_20 _ _ ?_
                refine w_ret ?_
                exact hret _ _ _ false _ hE hR (res_run hE rfl (RV.tmp rfl RV.nil)) rfl H
              · replace H := M.ite_f hb H
                refine w_skip ?_
                refine hK_4 _ _ ?_
                refine w_seq (fun K hK_21 => ?_)
                refine t_region ?_
                refine t_val (v := .pointer x7_3.1) rfl rfl hE rfl (r_move hE rfl) (fun a hE => ?_)
                refine t_call hE hR cl_disk_Disk_Read rfl (S_disk_Disk_Read x7_3.1 3) (M.unbind H) (fun x46_22 a w ea hR H => ?_)
                have hE := Env.put_some hE rfl ea; clear ea
                refine t_val (v := .tuple #[.agg x46_22.1, .int .i64 x46_22.2]) rfl rfl hE rfl (r_move hE rfl) (fun a hE => ?_)
                refine t_val (v := .agg x46_22.1) rfl rfl hE rfl (r_extract hE rfl rfl) (fun a hE => ?_)
                refine t_val (v := .int .i64 x46_22.2) rfl rfl hE rfl (r_extract hE rfl rfl) (fun a hE => ?_)
                obtain ⟨x3_23, qx3_23, H⟩ := H
                refine t_valh (v := .pointer (some x3_23)) rfl rfl hE rfl hR (r_alloc zr47 qx3_23) (fun a w hE hR hh => ?_)
                replace H := M.at hh H; clear hh
                obtain ⟨qz, H⟩ := H
                obtain ⟨u_24, qu_24, H⟩ := H
                refine t_sth rfl rfl hE hR (r_storeG hE rfl rfl sz47 qz qu_24) (fun a w hE hR hh => ?_)
                replace H := M.at hh H; clear hh
                refine t_val (v := .int .i64 x46_22.2) rfl rfl hE rfl (r_assign hE rfl) (fun a hE => ?_)
                refine t_nil ?_
                refine hK_21 _ _ ?_
                refine w_seq (fun K hK_25 => ?_)
                refine t_region ?_
                refine t_val (v := .pointer x7_3.1) rfl rfl hE rfl (r_move hE rfl) (fun a hE => ?_)
                refine t_call hE hR cl_disk_Disk_Read rfl (S_disk_Disk_Read x7_3.1 5) (M.unbind H) (fun x51_26 a w ea hR H => ?_)
                have hE := Env.put_some hE rfl ea; clear ea
                refine t_val (v := .tuple #[.agg x51_26.1, .int .i64 x51_26.2]) rfl rfl hE rfl (r_move hE rfl) (fun a hE => ?_)
                refine t_val (v := .agg x51_26.1) rfl rfl hE rfl (r_extract hE rfl rfl) (fun a hE => ?_)
                refine t_val (v := .int .i64 x51_26.2) rfl rfl hE rfl (r_extract hE rfl rfl) (fun a hE => ?_)
                obtain ⟨x4_27, qx4_27, H⟩ := H
                refine t_valh (v := .pointer (some x4_27)) rfl rfl hE rfl hR (r_alloc zr47 qx4_27) (fun a w hE hR hh => ?_)
                replace H := M.at hh H; clear hh
                obtain ⟨qz, H⟩ := H
                obtain ⟨u_28, qu_28, H⟩ := H
                refine t_sth rfl rfl hE hR (r_storeG hE rfl rfl sz47 qz qu_28) (fun a w hE hR hh => ?_)
                replace H := M.at hh H; clear hh
                refine t_val (v := .int .i64 x51_26.2) rfl rfl hE rfl (r_assign hE rfl) (fun a hE => ?_)
                refine t_nil ?_
                refine hK_25 _ _ ?_
                refine w_seq_join (fun a w => ∃ (x0_29 : Bool), Env (⟨65, []⟩ : Frm) a [(0, .bool x0_29)] ∧ Rest w0 w ∧ (ramblelaw04_begun_j1 x0_29).wp w.heap Q) ?_ ?_
                · rintro a w ⟨x0_29, hE, hR, H⟩
                  unfold ramblelaw04_begun_j1 at H
                  refine w_ret ?_
                  exact hret _ _ _ x0_29 _ hE hR (res_run hE rfl (RV.tmp rfl RV.nil)) rfl H
                · skip
                  obtain ⟨x54_30, qx54_30, H⟩ := H
                  have hT := tab_of tb20_6 rfl rfl
                  refine d_start (fun w : World => (fun h : Heap => (x54_30.size = 128 ∧ ∀ i, i < 128 → hcell h (Addr.add x3_23 i) = x54_30[i]?)) w.heap) [2, 3, 4, 5, 6, 7, 8, 9, 10, 11] #[false, false, false, false, false, false, false, false, false, false, false, false] mo hR rfl rfl (fun w' e => by rw [e]; exact qx54_30) (fun w hh hR hs => ?_)
                  replace H := M.at hh H; clear hh
                  refine d_read (i := 0) (v := .agg x54_30) #[true, false, false, false, false, false, false, false, false, false, false, false] rfl rfl hT (by kernel_rfl) hE rfl (wanted_none rfl) hs (fun w s => r_loadG hE rfl ag47 s) (fun a hE => ?_)
                  refine d_call (i := 1) #[true, true, false, false, false, false, false, false, false, false, false, false] rfl rfl rfl hT (by kernel_rfl) rfl hE hR (wanted_none rfl) cl_ramblelaw04_filled rfl (S_ramblelaw04_filled 1) (M.unbind H) (fun r h H w' e => by obtain ⟨_, sA, H⟩ := H; rw [e]; exact sA) (fun x55_31 a w ea hR H hs => ?_)
                  obtain ⟨_, sA, H⟩ := H; clear sA
                  have hE := Env.put_some hE rfl ea; clear ea
                  obtain ⟨x56_32, qx56_32, H⟩ := H
                  rcases bool_em x56_32 with hb_33 | hb_33
                  · replace H := M.ite_t hb_33 H
                    rcases bool_em (x46_22.2 == 0) with hb_34 | hb_34
                    · replace H := M.ite_t hb_34 H
                      refine d_pureg (i := 2) (v := .bool x56_32) #[true, true, true, false, false, false, false, false, false, false, false, false] rfl rfl hT (by kernel_rfl) hE rfl (wanted_none rfl) (fun w => r_bin hE rfl rfl (g_agg eg47) (b_eqlA un47 un5 sz5 qx56_32)) (fun a hE => ?_)
                      refine d_pureg (i := 3) (v := .bool x56_32) #[true, true, true, true, false, false, false, false, false, false, false, false] rfl rfl hT (by kernel_rfl) hE rfl (wanted_none rfl) (fun w => r_move hE rfl) (fun a hE => ?_)
                      have hE := hE.reb 57 x56_32 true hb_33 rfl
                      refine d_pureg (i := 4) (v := .int .i64 x46_22.2) #[true, true, true, true, true, false, false, false, false, false, false, false] rfl rfl hT (by kernel_rfl) hE rfl (wanted_of rfl hE rfl rfl rfl) (fun w => r_move hE rfl) (fun a hE => ?_)
                      refine d_pureg (i := 5) (v := .bool (x46_22.2 == 0)) #[true, true, true, true, true, true, false, false, false, false, false, false] rfl rfl hT (by kernel_rfl) hE rfl (wanted_of rfl hE rfl rfl rfl) (fun w => r_bin hE rfl rfl g_int b_eql) (fun a hE => ?_)
                      refine d_pureg (i := 6) (v := .bool (x46_22.2 == 0)) #[true, true, true, true, true, true, true, false, false, false, false, false] rfl rfl hT (by kernel_rfl) hE rfl (wanted_none rfl) (fun w => r_pick_t hE rfl rfl) (fun a hE => ?_)
                      refine d_pureg (i := 7) (v := .bool (x46_22.2 == 0)) #[true, true, true, true, true, true, true, true, false, false, false, false] rfl rfl hT (by kernel_rfl) hE rfl (wanted_none rfl) (fun w => r_move hE rfl) (fun a hE => ?_)
                      have hE := hE.reb 61 (x46_22.2 == 0) true hb_34 rfl
                      refine d_pureg (i := 8) (v := .int .i64 x51_26.2) #[true, true, true, true, true, true, true, true, true, false, false, false] rfl rfl hT (by kernel_rfl) hE rfl (wanted_of rfl hE rfl rfl rfl) (fun w => r_move hE rfl) (fun a hE => ?_)
                      refine d_pureg (i := 9) (v := .bool (x51_26.2 == 40)) #[true, true, true, true, true, true, true, true, true, true, false, false] rfl rfl hT (by kernel_rfl) hE rfl (wanted_of rfl hE rfl rfl rfl) (fun w => r_bin hE rfl rfl g_int b_eql) (fun a hE => ?_)
                      refine d_pureg (i := 10) (v := .bool (x51_26.2 == 40)) #[true, true, true, true, true, true, true, true, true, true, true, false] rfl rfl hT (by kernel_rfl) hE rfl (wanted_none rfl) (fun w => r_pick_t hE rfl rfl) (fun a hE => ?_)
                      refine d_pureg (i := 11) (v := .bool (x51_26.2 == 40)) #[true, true, true, true, true, true, true, true, true, true, true, true] rfl rfl hT (by kernel_rfl) hE rfl (wanted_none rfl) (fun w => r_assign hE rfl) (fun a hE => ?_)
                      refine d_done hT (by kernel_rfl) ?_
                      exact ⟨x51_26.2 == 40, hE.cut (.cons rfl Subs.nil), hR, H⟩
                    · replace H := M.ite_f hb_34 H
                      refine d_pureg (i := 2) (v := .bool x56_32) #[true, true, true, false, false, false, false, false, false, false, false, false] rfl rfl hT (by kernel_rfl) hE rfl (wanted_none rfl) (fun w => r_bin hE rfl rfl (g_agg eg47) (b_eqlA un47 un5 sz5 qx56_32)) (fun a hE => ?_)
                      refine d_pureg (i := 3) (v := .bool x56_32) #[true, true, true, true, false, false, false, false, false, false, false, false] rfl rfl hT (by kernel_rfl) hE rfl (wanted_none rfl) (fun w => r_move hE rfl) (fun a hE => ?_)
                      have hE := hE.reb 57 x56_32 true hb_33 rfl
                      refine d_pureg (i := 4) (v := .int .i64 x46_22.2) #[true, true, true, true, true, false, false, false, false, false, false, false] rfl rfl hT (by kernel_rfl) hE rfl (wanted_of rfl hE rfl rfl rfl) (fun w => r_move hE rfl) (fun a hE => ?_)
                      refine d_pureg (i := 5) (v := .bool (x46_22.2 == 0)) #[true, true, true, true, true, true, false, false, false, false, false, false] rfl rfl hT (by kernel_rfl) hE rfl (wanted_of rfl hE rfl rfl rfl) (fun w => r_bin hE rfl rfl g_int b_eql) (fun a hE => ?_)
                      refine d_pureg (i := 6) (v := .bool (x46_22.2 == 0)) #[true, true, true, true, true, true, true, false, false, false, false, false] rfl rfl hT (by kernel_rfl) hE rfl (wanted_none rfl) (fun w => r_pick_t hE rfl rfl) (fun a hE => ?_)
                      refine d_pureg (i := 7) (v := .bool (x46_22.2 == 0)) #[true, true, true, true, true, true, true, true, false, false, false, false] rfl rfl hT (by kernel_rfl) hE rfl (wanted_none rfl) (fun w => r_move hE rfl) (fun a hE => ?_)
                      have hE := hE.reb 61 (x46_22.2 == 0) false hb_34 rfl
                      refine d_off (i := 8) #[true, true, true, true, true, true, true, true, true, false, false, false] rfl rfl hT (by kernel_rfl) (unwanted_of rfl hE rfl rfl rfl) (fun a ea => ?_)
                      have hE := Env.put_some hE rfl ea; clear ea
                      refine d_off (i := 9) #[true, true, true, true, true, true, true, true, true, true, false, false] rfl rfl hT (by kernel_rfl) (unwanted_of rfl hE rfl rfl rfl) (fun a ea => ?_)
                      have hE := Env.put_some hE rfl ea; clear ea
                      refine d_pureg (i := 10) (v := .bool false) #[true, true, true, true, true, true, true, true, true, true, true, false] rfl rfl hT (by kernel_rfl) hE rfl (wanted_none rfl) (fun w => r_pick_f hE rfl rfl) (fun a hE => ?_)
                      refine d_pureg (i := 11) (v := .bool false) #[true, true, true, true, true, true, true, true, true, true, true, true] rfl rfl hT (by kernel_rfl) hE rfl (wanted_none rfl) (fun w => r_assign hE rfl) (fun a hE => ?_)
                      refine d_done hT (by kernel_rfl) ?_
                      exact ⟨false, hE.cut (.cons rfl Subs.nil), hR, H⟩
                  · replace H := M.ite_f hb_33 H
                    refine d_pureg (i := 2) (v := .bool x56_32) #[true, true, true, false, false, false, false, false, false, false, false, false] rfl rfl hT (by kernel_rfl) hE rfl (wanted_none rfl) (fun w => r_bin hE rfl rfl (g_agg eg47) (b_eqlA un47 un5 sz5 qx56_32)) (fun a hE => ?_)
                    refine d_pureg (i := 3) (v := .bool x56_32) #[true, true, true, true, false, false, false, false, false, false, false, false] rfl rfl hT (by kernel_rfl) hE rfl (wanted_none rfl) (fun w => r_move hE rfl) (fun a hE => ?_)
                    have hE := hE.reb 57 x56_32 false hb_33 rfl
                    refine d_off (i := 4) #[true, true, true, true, true, false, false, false, false, false, false, false] rfl rfl hT (by kernel_rfl) (unwanted_of rfl hE rfl rfl rfl) (fun a ea => ?_)
                    have hE := Env.put_some hE rfl ea; clear ea
                    refine d_off (i := 5) #[true, true, true, true, true, true, false, false, false, false, false, false] rfl rfl hT (by kernel_rfl) (unwanted_of rfl hE rfl rfl rfl) (fun a ea => ?_)
                    have hE := Env.put_some hE rfl ea; clear ea
                    refine d_pureg (i := 6) (v := .bool false) #[true, true, true, true, true, true, true, false, false, false, false, false] rfl rfl hT (by kernel_rfl) hE rfl (wanted_none rfl) (fun w => r_pick_f hE rfl rfl) (fun a hE => ?_)
                    refine d_pureg (i := 7) (v := .bool false) #[true, true, true, true, true, true, true, true, false, false, false, false] rfl rfl hT (by kernel_rfl) hE rfl (wanted_none rfl) (fun w => r_move hE rfl) (fun a hE => ?_)
                    refine d_off (i := 8) #[true, true, true, true, true, true, true, true, true, false, false, false] rfl rfl hT (by kernel_rfl) (unwanted_of rfl hE rfl rfl rfl) (fun a ea => ?_)
                    have hE := Env.put_some hE rfl ea; clear ea
                    refine d_off (i := 9) #[true, true, true, true, true, true, true, true, true, true, false, false] rfl rfl hT (by kernel_rfl) (unwanted_of rfl hE rfl rfl rfl) (fun a ea => ?_)
                    have hE := Env.put_some hE rfl ea; clear ea
                    refine d_pureg (i := 10) (v := .bool false) #[true, true, true, true, true, true, true, true, true, true, true, false] rfl rfl hT (by kernel_rfl) hE rfl (wanted_none rfl) (fun w => r_pick_f hE rfl rfl) (fun a hE => ?_)
                    refine d_pureg (i := 11) (v := .bool false) #[true, true, true, true, true, true, true, true, true, true, true, true] rfl rfl hT (by kernel_rfl) hE rfl (wanted_none rfl) (fun w => r_assign hE rfl) (fun a hE => ?_)
                    refine d_done hT (by kernel_rfl) ?_
                    exact ⟨false, hE.cut (.cons rfl Subs.nil), hR, H⟩

/-- (*ramble/disk.Disk).SetFuse -/
def disk_Disk_SetFuse (x0 : Option Addr) (x1 : Int) : M (Int) := do
  let x7_4 ← disk_Disk_can x0
  M.ite (x7_4 != 0) (do
    M.pure x7_4
    ) (do
    M.ite (decide (x1 < 0)) (do
      M.pure 1
      ) (do
      let x15_11 ← nilP x0
      stV ((x15_11).add 4) (.int .i64 x1)
      M.pure 0
      )
    )
theorem S_disk_Disk_SetFuse (x0 : Option Addr) (x1 : Int) : Sound Go.Proofs.Try.prog 29 #[.pointer x0, .int .i64 x1] (fun (r : Int) => .int .i64 r) (disk_Disk_SetFuse x0 x1) := by
  refine sound_of [(0, .pointer x0), (1, .int .i64 x1)] Go.Proofs.Try.func29 rfl rfl (Nat.le_of_ble_eq_true rfl) (args_of ⟨rfl, rfl, trivial⟩) (fun w0 w Q R a hret hE hR H => ?_)
  unfold disk_Disk_SetFuse at H
  refine w_seq (fun K hK_1 => ?_)
  refine t_region ?_
  refine t_val (v := .int .i64 0) rfl rfl hE rfl (r_assign hE rfl) (fun a hE => ?_)
  refine t_nil ?_
  refine hK_1 _ _ ?_
  refine w_seq (fun K hK_2 => ?_)
  refine w_seq (fun K hK_3 => ?_)
  refine t_region ?_
  refine t_val (v := .pointer x0) rfl rfl hE rfl (r_move hE rfl) (fun a hE => ?_)
  refine t_call hE hR cl_disk_Disk_can rfl (S_disk_Disk_can x0) (M.unbind H) (fun x7_4 a w ea hR H => ?_)
  have hE := Env.put_some hE rfl ea; clear ea
  refine t_val (v := .int .i64 x7_4) rfl rfl hE rfl (r_assign hE rfl) (fun a hE => ?_)
  refine t_nil ?_
  refine hK_3 _ _ ?_
  refine w_seq (fun K hK_5 => ?_)
  refine t_region ?_
  refine t_val (v := .int .i64 x7_4) rfl rfl hE rfl (r_move hE rfl) (fun a hE => ?_)
  refine t_val (v := .bool (x7_4 != 0)) rfl rfl hE rfl (r_bin hE rfl rfl g_int b_neq) (fun a hE => ?_)
  refine t_nil ?_
  refine hK_5 _ _ ?_
  refine w_cond (x7_4 != 0) hE rfl (fun hb => ?_) (fun hb => ?_)
  · replace H := M.ite_t hb H
    refine w_seq (fun K hK_6 => ?_)
    refine t_region ?_
    refine t_val (v := .int .i64 x7_4) rfl rfl hE rfl (r_move hE rfl) (fun a hE => ?_)
    refine t_val (v := .int .i64 x7_4) rfl rfl hE rfl (r_assign hE rfl) (fun a hE => ?_)
    refine t_nil ?_
    refine hK_6 _ _ ?_
    refine w_ret ?_
    exact hret _ _ _ x7_4 _ hE hR (res_run hE rfl (RV.tmp rfl RV.nil)) rfl H
  · replace H := M.ite_f hb H
    refine w_skip ?_
    refine hK_2 _ _ ?_
    refine w_seq (fun K hK_7 => ?_)
    refine w_seq (fun K hK_8 => ?_)
    refine t_region ?_
    refine t_val (v := .int .i64 x1) rfl rfl hE rfl (r_move hE rfl) (fun a hE => ?_)
    refine t_val (v := .bool (decide (x1 < 0))) rfl rfl hE rfl (r_bin hE rfl rfl g_int b_lss) (fun a hE => ?_)
    refine t_nil ?_
    refine hK_8 _ _ ?_
    refine w_cond (decide (x1 < 0)) hE rfl (fun hb => ?_) (fun hb => ?_)
    · replace H := M.ite_t hb H
      refine w_seq (fun K hK_9 => ?_)
      refine t_region ?_
      refine t_val (v := .int .i64 1) rfl rfl hE rfl (r_assign hE rfl) (fun a hE => ?_)
      refine t_nil ?_
      refine hK_9 _ _ ?_
      refine w_ret ?_
      exact hret _ _ _ 1 _ hE hR (res_run hE rfl (RV.tmp rfl RV.nil)) rfl H
    · replace H := M.ite_f hb H
      refine w_skip ?_
      refine hK_7 _ _ ?_
      refine w_seq (fun K hK_10 => ?_)
      refine t_region ?_
      refine t_val (v := .pointer x0) rfl rfl hE rfl (r_move hE rfl) (fun a hE => ?_)
      refine t_val (v := .int .i64 x1) rfl rfl hE rfl (r_move hE rfl) (fun a hE => ?_)
      obtain ⟨x15_11, qx15_11, H⟩ := H
      refine t_val (v := .pointer (some x15_11)) rfl rfl hE rfl (r_nilCheck hE (hx_eq rfl (congrArg Value.pointer qx15_11))) (fun a hE => ?_)
      refine t_val (v := .pointer (some ((x15_11).add 4))) rfl rfl hE rfl (r_fieldAddr hE rfl fd66_4) (fun a hE => ?_)
      obtain ⟨u_12, qu_12, H⟩ := H
      refine t_sth rfl rfl hE hR (r_store hE rfl rfl sz3 qu_12) (fun a w hE hR hh => ?_)
      replace H := M.at hh H; clear hh
      refine t_nil ?_
      refine hK_10 _ _ ?_
      refine w_seq (fun K hK_13 => ?_)
      refine t_region ?_
      refine t_val (v := .int .i64 0) rfl rfl hE rfl (r_assign hE rfl) (fun a hE => ?_)
      refine t_nil ?_
      refine hK_13 _ _ ?_
      refine w_ret ?_
      exact hret _ _ _ 0 _ hE hR (res_run hE rfl (RV.tmp rfl RV.nil)) rfl H

/-- (*ramble/disk.Disk).Calls -/
def disk_Disk_Calls (x0 : Option Addr) : M (Int) := do
  let x4_4 ← disk_Disk_none x0
  M.ite x4_4 (do
    M.pure 0
    ) (do
    let x6_7 ← nilP x0
    let x8_8 ← ldI .i64 ((x6_7).add 5)
    M.pure x8_8
    )
theorem S_disk_Disk_Calls (x0 : Option Addr) : Sound Go.Proofs.Try.prog 30 #[.pointer x0] (fun (r : Int) => .int .i64 r) (disk_Disk_Calls x0) := by
  refine sound_of [(0, .pointer x0)] Go.Proofs.Try.func30 rfl rfl (Nat.le_of_ble_eq_true rfl) (args_of ⟨rfl, trivial⟩) (fun w0 w Q R a hret hE hR H => ?_)
  unfold disk_Disk_Calls at H
  refine w_seq (fun K hK_1 => ?_)
  refine t_region ?_
  refine t_val (v := .int .i64 0) rfl rfl hE rfl (r_assign hE rfl) (fun a hE => ?_)
  refine t_nil ?_
  refine hK_1 _ _ ?_
  refine w_seq (fun K hK_2 => ?_)
  refine w_seq (fun K hK_3 => ?_)
  refine t_region ?_
  refine t_val (v := .pointer x0) rfl rfl hE rfl (r_move hE rfl) (fun a hE => ?_)
  refine t_call hE hR cl_disk_Disk_none rfl (S_disk_Disk_none x0) (M.unbind H) (fun x4_4 a w ea hR H => ?_)
  have hE := Env.put_some hE rfl ea; clear ea
  refine t_nil ?_
  refine hK_3 _ _ ?_
  refine w_cond x4_4 hE rfl (fun hb => ?_) (fun hb => ?_)
  · replace H := M.ite_t hb H
    refine w_seq (fun K hK_5 => ?_)
    refine t_region ?_
    refine t_val (v := .int .i64 0) rfl rfl hE rfl (r_assign hE rfl) (fun a hE => ?_)
    refine t_nil ?_
    refine hK_5 _ _ ?_
    refine w_ret ?_
    exact hret _ _ _ 0 _ hE hR (res_run hE rfl (RV.tmp rfl RV.nil)) rfl H
  · replace H := M.ite_f hb H
    refine w_skip ?_
    refine hK_2 _ _ ?_
    refine w_seq (fun K hK_6 => ?_)
    refine t_region ?_
    refine t_val (v := .pointer x0) rfl rfl hE rfl (r_move hE rfl) (fun a hE => ?_)
    obtain ⟨x6_7, qx6_7, H⟩ := H
    refine t_val (v := .pointer (some x6_7)) rfl rfl hE rfl (r_nilCheck hE (hx_eq rfl (congrArg Value.pointer qx6_7))) (fun a hE => ?_)
    refine t_val (v := .pointer (some ((x6_7).add 5))) rfl rfl hE rfl (r_fieldAddr hE rfl fd66_5) (fun a hE => ?_)
    obtain ⟨x8_8, qx8_8, H⟩ := H
    refine t_val (v := .int .i64 x8_8) rfl rfl hE rfl (r_load hE rfl sc2 qx8_8) (fun a hE => ?_)
    refine t_val (v := .int .i64 x8_8) rfl rfl hE rfl (r_assign hE rfl) (fun a hE => ?_)
    refine t_nil ?_
    refine hK_6 _ _ ?_
    refine w_ret ?_
    exact hret _ _ _ x8_8 _ hE hR (res_run hE rfl (RV.tmp rfl RV.nil)) rfl H

/-- (*ramble/disk.Disk).Burst -/
def disk_Disk_Burst_j1 (self1 : (Int) → M (Int)) (c29_31 : Int) : M (Int) := do
  self1 (IntKind.wrap .i64 (c29_31 + 1))
noncomputable def ro32_13 : Array Oper := opsOf Go.Proofs.Try.f32 13
def tE32_13 : List (List Nat) := [[], [0], [1], [2], [], [], [5], [3, 4], [7, 6], [8], [], [10], [11], [9, 12], [3, 4], [14, 6, 0, 1, 2, 3, 4, 5, 6, 7, 8, 9, 10, 11, 12, 13], [15, 13, 0, 1, 2, 3, 4, 5, 6, 7, 8, 9, 10, 11, 12, 13]]
def tC32_13 : List (List Nat) := [[], [0], [1], [2], [], [], [5], [3, 4], [6, 7], [8], [], [10], [11], [9, 12], [3, 4], [6, 14], [13, 15]]
def tW32_13 : List (List Nat) := [[], [0], [0, 1], [0, 1, 2], [], [], [5], [0, 1, 2, 3, 4], [0, 1, 2, 3, 4, 5, 6, 7], [0, 1, 2, 3, 4, 5, 6, 7, 8], [], [10], [10, 11], [0, 1, 2, 3, 4, 5, 6, 7, 8, 9, 10, 11, 12], [0, 1, 2, 3, 4], [0, 1, 2, 3, 4, 5, 6, 7, 8, 9, 10, 11, 12, 13, 14], [0, 1, 2, 3, 4, 5, 6, 7, 8, 9, 10, 11, 12, 13, 14, 15]]
theorem tb32_13 : tabAt Go.Proofs.Try.f32 13 tE32_13 tC32_13 tW32_13 = true := by kernel_rfl
theorem tb32_13m : tabMB 17 tE32_13 tC32_13 tW32_13 [0, 1, 2, 4, 0, 0, 32, 24, 192, 256, 0, 1024, 2048, 4608, 24, 32767, 49151] [0, 1, 2, 4, 0, 0, 32, 24, 192, 256, 0, 1024, 2048, 4608, 24, 16448, 40960] [0, 1, 3, 7, 0, 0, 32, 31, 255, 511, 0, 1024, 3072, 8191, 31, 32767, 65535] = true := by kernel_rfl
def disk_Disk_Burst_l1 (c0_18 : Option Addr) (c1_19 : Int) (c2_20 : Int) (c3_21 : Int) (c28_22 : Int) (self1 : (Int) → M (Int)) : (Int) → M (Int) := fun s => match s with
  | x29_17 => do
    M.ite (decide (x29_17 < c28_22)) (do
      let x34_34 ← pShr .u32 c3_21 x29_17
      M.ite ((iAnd .u32 x34_34 1) == 1) (do
        let x41_36 ← nilP c0_18
        let x52_37 ← pShl .u8 1 (Int.tmod (IntKind.wrap .i64 (c2_20 + x29_17)) 8)
        let x43_38 ← ldL ((x41_36).add 0)
        let x47_39 ← ixL x43_38 c1_19 128
        let x48_40 ← ixA x47_39 128 (IntKind.wrap .i64 (Int.tdiv (IntKind.wrap .i64 (c2_20 + x29_17)) 8)) 1
        let x54_41 ← ixL x43_38 c1_19 128
        let x49_42 ← ldI .u8 x48_40
        let x55_43 ← ixA x54_41 128 (IntKind.wrap .i64 (Int.tdiv (IntKind.wrap .i64 (c2_20 + x29_17)) 8)) 1
        stV x55_43 (.int .u8 (iXor .u8 x49_42 x52_37))
        disk_Disk_Burst_j1 self1 x29_17
        ) (do
        disk_Disk_Burst_j1 self1 x29_17
        )
      ) (do
      M.pure 0
      )
def disk_Disk_Burst (x0 : Option Addr) (x1 : Int) (x2 : Int) (x3 : Int) : M (Int) := do
  let x13_4 ← disk_Disk_none x0
  M.ite x13_4 (do
    M.pure 2
    ) (do
    let x16_8 ← disk_Disk_there x0 x1
    M.ite (x16_8 != 0) (do
      M.pure x16_8
      ) (do
      let x25_13 ← M.ite (decide (x2 < 0)) (do
        M.pure true
        ) (do
        M.pure (decide (x2 ≥ 1024))
        )
      M.ite x25_13 (do
        M.pure 1
        ) (do
        M.loop (disk_Disk_Burst_l1 x0 x1 x2 x3 (iMin 32 (IntKind.wrap .i64 (1024 - x2)))) 0
        )
      )
    )
theorem S_disk_Disk_Burst (x0 : Option Addr) (x1 : Int) (x2 : Int) (x3 : Int) : Sound Go.Proofs.Try.prog 32 #[.pointer x0, .int .i64 x1, .int .i64 x2, .int .u32 x3] (fun (r : Int) => .int .i64 r) (disk_Disk_Burst x0 x1 x2 x3) := by
  refine sound_of [(0, .pointer x0), (1, .int .i64 x1), (2, .int .i64 x2), (3, .int .u32 x3)] Go.Proofs.Try.func32 rfl rfl (Nat.le_of_ble_eq_true rfl) (args_of ⟨rfl, rfl, rfl, rfl, trivial⟩) (fun w0 w Q R a hret hE hR H => ?_)
  unfold disk_Disk_Burst at H
  refine w_seq (fun K hK_1 => ?_)
  refine t_region ?_
  refine t_val (v := .int .i64 0) rfl rfl hE rfl (r_assign hE rfl) (fun a hE => ?_)
  refine t_nil ?_
  refine hK_1 _ _ ?_
  refine w_seq (fun K hK_2 => ?_)
  refine w_seq (fun K hK_3 => ?_)
  refine t_region ?_
  refine t_val (v := .pointer x0) rfl rfl hE rfl (r_move hE rfl) (fun a hE => ?_)
  refine t_call hE hR cl_disk_Disk_none rfl (S_disk_Disk_none x0) (M.unbind H) (fun x13_4 a w ea hR H => ?_)
  have hE := Env.put_some hE rfl ea; clear ea
  refine t_nil ?_
  refine hK_3 _ _ ?_
  refine w_cond x13_4 hE rfl (fun hb => ?_) (fun hb => ?_)
  · replace H := M.ite_t hb H
    refine w_seq (fun K hK_5 => ?_)
    refine t_region ?_
    refine t_val (v := .int .i64 2) rfl rfl hE rfl (r_assign hE rfl) (fun a hE => ?_)
    refine t_nil ?_
    refine hK_5 _ _ ?_
    refine w_ret ?_
    exact hret _ _ _ 2 _ hE hR (res_run hE rfl (RV.tmp rfl RV.nil)) rfl H
  · replace H := M.ite_f hb H
    refine w_skip ?_
    refine hK_2 _ _ ?_
    refine w_seq (fun K hK_6 => ?_)
    refine w_seq (fun K hK_7 => ?_)
    refine t_region ?_
    refine t_val (v := .pointer x0) rfl rfl hE rfl (r_move hE rfl) (fun a hE => ?_)
    refine t_val (v := .int .i64 x1) rfl rfl hE rfl (r_move hE rfl) (fun a hE => ?_)
    refine t_call hE hR cl_disk_Disk_there rfl (S_disk_Disk_there x0 x1) (M.unbind H) (fun x16_8 a w ea hR H => ?_)
    have hE := Env.put_some hE rfl ea; clear ea
    refine t_val (v := .int .i64 x16_8) rfl rfl hE rfl (r_assign hE rfl) (fun a hE => ?_)
    refine t_nil ?_
    refine hK_7 _ _ ?_
    refine w_seq (fun K hK_9 => ?_)
    refine t_region ?_
    refine t_val (v := .int .i64 x16_8) rfl rfl hE rfl (r_move hE rfl) (fun a hE => ?_)
    refine t_val (v := .bool (x16_8 != 0)) rfl rfl hE rfl (r_bin hE rfl rfl g_int b_neq) (fun a hE => ?_)
    refine t_nil ?_
    refine hK_9 _ _ ?_
    refine w_cond (x16_8 != 0) hE rfl (fun hb => ?_) (fun hb => ?_)
    · replace H := M.ite_t hb H
      refine w_seq (fun K hK_10 => ?_)
      refine t_region ?_
      refine t_val (v := .int .i64 x16_8) rfl rfl hE rfl (r_move hE rfl) (fun a hE => ?_)
      refine t_val (v := .int .i64 x16_8) rfl rfl hE rfl (r_assign hE rfl) (fun a hE => ?_)
      refine t_nil ?_
      refine hK_10 _ _ ?_
      refine w_ret ?_
      exact hret _ _ _ x16_8 _ hE hR (res_run hE rfl (RV.tmp rfl RV.nil)) rfl H
    · replace H := M.ite_f hb H
      refine w_skip ?_
      refine hK_6 _ _ ?_
      refine w_seq (fun K hK_11 => ?_)
      refine w_seq (fun K hK_12 => ?_)
      refine t_region ?_
      refine t_val (v := .int .i64 x2) rfl rfl hE rfl (r_move hE rfl) (fun a hE => ?_)
      refine t_val (v := .bool (decide (x2 < 0))) rfl rfl hE rfl (r_bin hE rfl rfl g_int b_lss) (fun a hE => ?_)
      refine t_val (v := .bool (decide (x2 < 0))) rfl rfl hE rfl (r_move hE rfl) (fun a hE => ?_)
      refine t_grp (n := (⟨57, []⟩ : Frm)) (w0 := w0) 3 (fun x25_13 : Bool => [(0, .pointer x0), (1, .int .i64 x1), (2, .int .i64 x2), (3, .int .u32 x3), (25, .bool x25_13)]) (M.unbind H) (fun Kr hKr H => ?_) ?_
      · rcases bool_em (decide (x2 < 0)) with hb | hb
        · replace H := M.ite_t hb H
          have hE := hE.reb 22 (decide (x2 < 0)) true hb rfl
          refine t_off rfl hE rfl rfl rfl (fun a ea => ?_)
          have hE := Env.put_some hE rfl ea; clear ea
          refine t_off rfl hE rfl rfl rfl (fun a ea => ?_)
          have hE := Env.put_some hE rfl ea; clear ea
          refine t_val rfl rfl hE rfl (r_pick_t hE rfl rfl) (fun a hE => ?_)
          refine t_nil ?_
          exact hKr _ _ _ (hE.cut (.cons rfl (.cons rfl (.cons rfl (.cons rfl (.cons rfl Subs.nil)))))) hR H
        · replace H := M.ite_f hb H
          have hE := hE.reb 22 (decide (x2 < 0)) false hb rfl
          refine t_on rfl hE rfl rfl rfl ?_
          refine t_val (v := .int .i64 x2) rfl rfl hE rfl (r_move hE rfl) (fun a hE => ?_)
          refine t_on rfl hE rfl rfl rfl ?_
          refine t_val (v := .bool (decide (x2 ≥ 1024))) rfl rfl hE rfl (r_bin hE rfl rfl g_int b_geq) (fun a hE => ?_)
          refine t_val rfl rfl hE rfl (r_pick_f hE rfl rfl) (fun a hE => ?_)
          refine t_nil ?_
          exact hKr _ _ _ (hE.cut (.cons rfl (.cons rfl (.cons rfl (.cons rfl (.cons rfl Subs.nil)))))) hR H
      · intro x25_13 a w hE hR H
        refine t_nil ?_
        refine hK_12 _ _ ?_
        refine w_cond x25_13 hE rfl (fun hb => ?_) (fun hb => ?_)
        · replace H := M.ite_t hb H
          refine w_seq (fun K hK_14 => ?_)
          refine t_region ?_
          refine t_val (v := .int .i64 1) rfl rfl hE rfl (r_assign hE rfl) (fun a hE => ?_)
          refine t_nil ?_
          refine hK_14 _ _ ?_
          refine w_ret ?_
          exact hret _ _ _ 1 _ hE hR (res_run hE rfl (RV.tmp rfl RV.nil)) rfl H
        · replace H := M.ite_f hb H
          refine w_skip ?_
          refine hK_11 _ _ ?_
          refine w_seq (fun K hK_15 => ?_)
          refine w_seq (fun K hK_16 => ?_)
          refine t_region ?_
          refine t_val (v := .int .i64 x2) rfl rfl hE rfl (r_move hE rfl) (fun a hE => ?_)
          refine t_val (v := .int .i64 (IntKind.wrap .i64 (1024 - x2))) rfl rfl hE rfl (r_bin hE rfl rfl g_int b_sub) (fun a hE => ?_)
          refine t_val (v := .int .i64 (iMin 32 (IntKind.wrap .i64 (1024 - x2)))) rfl rfl hE rfl (r_min hE rfl rfl) (fun a hE => ?_)
          refine t_val (v := .int .i64 0) rfl rfl hE rfl (r_move hE rfl) (fun a hE => ?_)
          refine t_nil ?_
          refine hK_16 _ _ ?_
          refine w_block ?_
          refine l_loop (fun (s : Int) => (⟨57, []⟩ : Frm)) (fun (s : Int) => [(0, .pointer x0), (1, .int .i64 x1), (2, .int .i64 x2), (3, .int .u32 x3), (28, .int .i64 (iMin 32 (IntKind.wrap .i64 (1024 - x2)))), (29, .int .i64 s)]) H (hE.cut (.cons rfl (.cons rfl (.cons rfl (.cons rfl (.cons rfl (.cons rfl Subs.nil))))))) hR (fun Y self1 hY_23 x29_17 a w hE hR H => ?_)
          replace hE : Env (⟨57, []⟩ : Frm) a [(0, .pointer x0), (1, .int .i64 x1), (2, .int .i64 x2), (3, .int .u32 x3), (28, .int .i64 (iMin 32 (IntKind.wrap .i64 (1024 - x2)))), (29, .int .i64 x29_17)] := hE
          replace H : (disk_Disk_Burst_l1 x0 x1 x2 x3 (iMin 32 (IntKind.wrap .i64 (1024 - x2))) self1 x29_17).wp w.heap Q := H
          unfold disk_Disk_Burst_l1 at H
          refine w_seq (fun K hK_24 => ?_)
          refine t_region ?_
          refine t_val (v := .bool (decide (x29_17 < (iMin 32 (IntKind.wrap .i64 (1024 - x2)))))) rfl rfl hE rfl (r_bin hE rfl rfl g_int b_lss) (fun a hE => ?_)
          refine t_nil ?_
          refine hK_24 _ _ ?_
          refine w_seq (fun K hK_25 => ?_)
          refine w_cond (decide (x29_17 < (iMin 32 (IntKind.wrap .i64 (1024 - x2))))) hE rfl (fun hb => ?_) (fun hb => ?_)
          · replace H := M.ite_t hb H
            refine w_skip ?_
            refine hK_25 _ _ ?_
            refine w_seq_join (fun a w => Env (⟨57, []⟩ : Frm) a [(0, .pointer x0), (1, .int .i64 x1), (2, .int .i64 x2), (3, .int .u32 x3), (28, .int .i64 (iMin 32 (IntKind.wrap .i64 (1024 - x2)))), (29, .int .i64 x29_17)] ∧ Rest w0 w ∧ (disk_Disk_Burst_j1 self1 x29_17).wp w.heap Q) ?_ ?_
            · rintro a w ⟨hE, hR, H⟩
              unfold disk_Disk_Burst_j1 at H
              refine t_region ?_
              refine t_val (v := .int .i64 (IntKind.wrap .i64 (x29_17 + 1))) rfl rfl hE rfl (r_bin hE rfl rfl g_int b_add) (fun a hE => ?_)
              refine t_val (v := .int .i64 (IntKind.wrap .i64 (x29_17 + 1))) rfl rfl hE rfl (r_move hE rfl) (fun a hE => ?_)
              refine t_nil ?_
              exact hY_23 (IntKind.wrap .i64 (x29_17 + 1)) _ _ (hE.cut (.cons rfl (.cons rfl (.cons rfl (.cons rfl (.cons rfl (.cons rfl Subs.nil))))))) hR H
            · skip
              refine w_block ?_
              refine w_seq (fun K hK_32 => ?_)
              refine t_region ?_
              refine t_val (v := .int .i64 x29_17) rfl rfl hE rfl (r_move hE rfl) (fun a hE => ?_)
              refine t_val (v := .int .i64 x29_17) rfl rfl hE rfl (r_assign hE rfl) (fun a hE => ?_)
              refine t_nil ?_
              refine hK_32 _ _ ?_
              refine w_seq (fun K hK_33 => ?_)
              refine t_region ?_
              refine t_val (v := .int .u32 x3) rfl rfl hE rfl (r_move hE rfl) (fun a hE => ?_)
              refine t_val (v := .int .i64 x29_17) rfl rfl hE rfl (r_move hE rfl) (fun a hE => ?_)
              obtain ⟨x34_34, qx34_34, H⟩ := H
              refine t_val (v := .int .u32 x34_34) rfl rfl hE rfl (r_bin hE rfl rfl g_int (b_shr qx34_34)) (fun a hE => ?_)
              refine t_val (v := .int .u32 (iAnd .u32 x34_34 1)) rfl rfl hE rfl (r_bin hE rfl rfl g_int b_and) (fun a hE => ?_)
              refine t_val (v := .bool ((iAnd .u32 x34_34 1) == 1)) rfl rfl hE rfl (r_bin hE rfl rfl g_int b_eql) (fun a hE => ?_)
              refine t_nil ?_
              refine hK_33 _ _ ?_
              refine w_cond ((iAnd .u32 x34_34 1) == 1) hE rfl (fun hb => ?_) (fun hb => ?_)
              · replace H := M.ite_t hb H
                refine w_seq (fun K hK_35 => ?_)
                refine t_region ?_
                refine t_val (v := .int .i64 x2) rfl rfl hE rfl (r_move hE rfl) (fun a hE => ?_)
                refine t_val (v := .int .i64 x29_17) rfl rfl hE rfl (r_move hE rfl) (fun a hE => ?_)
                refine t_val (v := .int .i64 (IntKind.wrap .i64 (x2 + x29_17))) rfl rfl hE rfl (r_bin hE rfl rfl g_int b_add) (fun a hE => ?_)
                refine t_val (v := .int .i64 (IntKind.wrap .i64 (x2 + x29_17))) rfl rfl hE rfl (r_assign hE rfl) (fun a hE => ?_)
                refine t_nil ?_
                refine hK_35 _ _ ?_
                obtain ⟨x41_36, qx41_36, H⟩ := H
                obtain ⟨x52_37, qx52_37, H⟩ := H
                obtain ⟨x43_38, qx43_38, H⟩ := H
                obtain ⟨x47_39, qx47_39, H⟩ := H
                obtain ⟨x48_40, qx48_40, H⟩ := H
                obtain ⟨x54_41, qx54_41, H⟩ := H
                obtain ⟨x49_42, qx49_42, H⟩ := H
                obtain ⟨x55_43, qx55_43, H⟩ := H
                refine reg_eq (rops := ro32_13) (by kernel_rfl) ?_
                have hT : Tab ro32_13 _ _ _ := tab_of tb32_13 rfl (by kernel_rfl)
                have hM := TabM.of tb32_13m
                refine d_start (m := 17) (fun w : World => (fun h : Heap => (hcell h ((x41_36).add 0) = some ((x43_38 : Sl).v)) ∧ (hcell h x48_40 = some (.int .u8 x49_42))) w.heap) [13, 15, 16] (unb 17 0) mo hR (by kernel_rfl) (by kernel_rfl) (fun w' e => by rw [e]; exact ⟨qx43_38, qx49_42⟩) (fun w hh hR hs => ?_)
                replace H := M.at hh H; clear hh
                refine d_pureg (i := 0) (v := .pointer x0) (unb 17 1) rfl rfl hT (anyM hM (by kernel_rfl)) hE rfl (wanted_none rfl) (fun w => r_move hE rfl) (fun a hE => ?_)
                refine d_pureg (i := 1) (v := .pointer (some x41_36)) (unb 17 3) rfl rfl hT (anyM hM (by kernel_rfl)) hE rfl (wanted_none rfl) (fun w => r_nilCheck hE (hx_eq rfl (congrArg Value.pointer qx41_36))) (fun a hE => ?_)
                refine d_pureg (i := 2) (v := .pointer (some ((x41_36).add 0))) (unb 17 7) rfl rfl hT (anyM hM (by kernel_rfl)) hE rfl (wanted_none rfl) (fun w => r_fieldAddr hE rfl fd66_0) (fun a hE => ?_)
                refine d_pureg (i := 4) (v := .int .i64 x1) (unb 17 23) rfl rfl hT (anyM hM (by kernel_rfl)) hE rfl (wanted_none rfl) (fun w => r_move hE rfl) (fun a hE => ?_)
                refine d_pureg (i := 5) (v := .int .i64 (IntKind.wrap .i64 (x2 + x29_17))) (unb 17 55) rfl rfl hT (anyM hM (by kernel_rfl)) hE rfl (wanted_none rfl) (fun w => r_move hE rfl) (fun a hE => ?_)
                refine d_pureg (i := 6) (v := .int .i64 (IntKind.wrap .i64 (Int.tdiv (IntKind.wrap .i64 (x2 + x29_17)) 8))) (unb 17 119) rfl rfl hT (anyM hM (by kernel_rfl)) hE rfl (wanted_none rfl) (fun w => r_bin hE rfl rfl g_int (b_quo ⟨by decide, rfl⟩)) (fun a hE => ?_)
                refine d_pureg (i := 10) (v := .int .i64 (IntKind.wrap .i64 (x2 + x29_17))) (unb 17 1143) rfl rfl hT (anyM hM (by kernel_rfl)) hE rfl (wanted_none rfl) (fun w => r_move hE rfl) (fun a hE => ?_)
                refine d_pureg (i := 11) (v := .int .i64 (Int.tmod (IntKind.wrap .i64 (x2 + x29_17)) 8)) (unb 17 3191) rfl rfl hT (anyM hM (by kernel_rfl)) hE rfl (wanted_none rfl) (fun w => r_bin hE rfl rfl g_int (b_rem ⟨by decide, rfl⟩)) (fun a hE => ?_)
                refine d_pureg (i := 12) (v := .int .u8 x52_37) (unb 17 7287) rfl rfl hT (anyM hM (by kernel_rfl)) hE rfl (wanted_none rfl) (fun w => r_bin hE rfl rfl g_int (b_shl qx52_37)) (fun a hE => ?_)
                refine d_read (i := 3) (v := (x43_38 : Sl).v) (unb 17 7295) rfl rfl hT (takeM hM (by kernel_rfl)) hE rfl (wanted_none rfl) hs (fun w s => r_load hE rfl sc63 s.1) (fun a hE => ?_)
                refine d_pureg (i := 7) (v := .pointer (some x47_39)) (unb 17 7423) rfl rfl hT (anyM hM (by kernel_rfl)) hE rfl (wanted_none rfl) (fun w => r_indexAddrL hE rfl rfl un63 sz47 qx47_39) (fun a hE => ?_)
                refine d_pureg (i := 8) (v := .pointer (some x48_40)) (unb 17 7679) rfl rfl hT (anyM hM (by kernel_rfl)) hE rfl (wanted_none rfl) (fun w => r_indexAddrA hE rfl rfl un47 sz5 qx48_40) (fun a hE => ?_)
                refine d_pureg (i := 14) (v := .pointer (some x54_41)) (unb 17 24063) rfl rfl hT (anyM hM (by kernel_rfl)) hE rfl (wanted_none rfl) (fun w => r_indexAddrL hE rfl rfl un63 sz47 qx54_41) (fun a hE => ?_)
                refine d_read (i := 9) (v := .int .u8 x49_42) (unb 17 24575) rfl rfl hT (takeM hM (by kernel_rfl)) hE rfl (wanted_none rfl) hs (fun w s => r_load hE rfl sc5 s.2) (fun a hE => ?_)
                refine d_pureg (i := 13) (v := .int .u8 (iXor .u8 x49_42 x52_37)) (unb 17 32767) rfl rfl hT (anyM hM (by kernel_rfl)) hE rfl (wanted_none rfl) (fun w => r_bin hE rfl rfl g_int b_xor) (fun a hE => ?_)
                refine d_pureg (i := 15) (v := .pointer (some x55_43)) (unb 17 65535) rfl rfl hT (anyM hM (by kernel_rfl)) hE rfl (wanted_none rfl) (fun w => r_indexAddrA hE rfl rfl un47 sz5 qx55_43) (fun a hE => ?_)
                obtain ⟨u_44, qu_44, H⟩ := H
                refine d_stlh (i := 16) (unb 17 131071) rfl rfl hT (oneM hM (by kernel_rfl)) rfl hE hR (wanted_none rfl) (r_store hE rfl rfl sz5 qu_44)  (fun a w hE hR hh => ?_)
                replace H := M.at hh H; clear hh
                refine d_done hT (doneM hM (by kernel_rfl)) ?_
                exact ⟨hE.cut (.cons rfl (.cons rfl (.cons rfl (.cons rfl (.cons rfl (.cons rfl Subs.nil)))))), hR, H⟩
              · replace H := M.ite_f hb H
                refine w_skip ?_
                exact ⟨hE.cut (.cons rfl (.cons rfl (.cons rfl (.cons rfl (.cons rfl (.cons rfl Subs.nil)))))), hR, H⟩
          · replace H := M.ite_f hb H
            refine w_exit ?_
            refine Xu.same ?_
            refine hK_15 _ _ ?_
            refine w_seq (fun K hK_45 => ?_)
            refine t_region ?_
            refine t_val (v := .int .i64 0) rfl rfl hE rfl (r_assign hE rfl) (fun a hE => ?_)
            refine t_nil ?_
            refine hK_45 _ _ ?_
            refine w_ret ?_
            exact hret _ _ _ 0 _ hE hR (res_run hE rfl (RV.tmp rfl RV.nil)) rfl H

/-- slices.Clone[[]ramble/api.Sector,ramble/api.Sector] -/
def slices_Clone_slapi_Sector_api_Sector (x0 : Sl) : M (Sl) := do
  M.ite ((x0).base.isNone) (do
    M.pure Sl.nil
    ) (do
    let y_7 ← fillL 128 0 (Array.replicate 128 (.int .u8 0) : Array Value) []
    let x5_6 ← bdL ty_api_Sector 0 y_7
    let x7_8 ← apL ty_api_Sector 128 128 (Array.replicate 128 (.int .u8 0) : Array Value) x5_6 x0
    M.pure x7_8
    )
theorem S_slices_Clone_slapi_Sector_api_Sector (x0 : Sl) : Sound Go.Proofs.Try.prog 59 #[(x0 : Sl).v] (fun (r : Sl) => (r : Sl).v) (slices_Clone_slapi_Sector_api_Sector x0) := by
  refine sound_of [(0, (x0 : Sl).v)] Go.Proofs.Try.func59 rfl rfl (Nat.le_of_ble_eq_true rfl) (args_of ⟨rfl, trivial⟩) (fun w0 w Q R a hret hE hR H => ?_)
  unfold slices_Clone_slapi_Sector_api_Sector at H
  refine w_seq (fun K hK_1 => ?_)
  refine t_region ?_
  refine t_val (v := (Sl.nil : Sl).v) rfl rfl hE rfl (r_assign hE rfl) (fun a hE => ?_)
  refine t_nil ?_
  refine hK_1 _ _ ?_
  refine w_seq (fun K hK_2 => ?_)
  refine w_seq (fun K hK_3 => ?_)
  refine t_region ?_
  refine t_val (v := (x0 : Sl).v) rfl rfl hE rfl (r_move hE rfl) (fun a hE => ?_)
  refine t_val (v := .bool ((x0).base.isNone)) rfl rfl hE rfl (r_bin hE rfl rfl (g_sl (v := Sl.nil)) (b_eqlL un63)) (fun a hE => ?_)
  refine t_nil ?_
  refine hK_3 _ _ ?_
  refine w_cond ((x0).base.isNone) hE rfl (fun hb => ?_) (fun hb => ?_)
  · replace H := M.ite_t hb H
    refine w_seq (fun K hK_4 => ?_)
    refine t_region ?_
    refine t_val (v := (Sl.nil : Sl).v) rfl rfl hE rfl (r_assign hE rfl) (fun a hE => ?_)
    refine t_nil ?_
    refine hK_4 _ _ ?_
    refine w_ret ?_
    exact hret _ _ _ Sl.nil _ hE hR (res_run hE rfl (RV.tmp rfl RV.nil)) rfl H
  · replace H := M.ite_f hb H
    refine w_skip ?_
    refine hK_2 _ _ ?_
    refine w_seq (fun K hK_5 => ?_)
    refine t_region ?_
    obtain ⟨y_7, qy_7, H⟩ := H
    obtain ⟨x5_6, qx5_6, H⟩ := H
    refine t_valh (v := (x5_6 : Sl).v) rfl rfl hE rfl hR (r_buildL hE rfl un63 sz47 zr47 rfl qy_7 qx5_6) (fun a w hE hR hh => ?_)
    replace H := M.at hh H; clear hh
    refine t_val (v := (x0 : Sl).v) rfl rfl hE rfl (r_move hE rfl) (fun a hE => ?_)
    refine t_ex (fun x7_8 => (x7_8 : Sl).v) rfl rfl hR (M.unbind H) (fun Q H => ap_run hE rfl rfl ap63 H) (fun x7_8 a w ea hR H => ?_)
    have hE := Env.put_some hE rfl ea; clear ea
    refine t_val (v := (x7_8 : Sl).v) rfl rfl hE rfl (r_assign hE rfl) (fun a hE => ?_)
    refine t_nil ?_
    refine hK_5 _ _ ?_
    refine w_ret ?_
    exact hret _ _ _ x7_8 _ hE hR (res_run hE rfl (RV.tmp rfl RV.nil)) rfl H

/-- slices.Clone[[]bool,bool] -/
def slices_Clone_slbool_bool (x0 : Sl) : M (Sl) := do
  M.ite ((x0).base.isNone) (do
    M.pure Sl.nil
    ) (do
    let x5_6 ← bdL ty_bool 0 #[]
    let x7_7 ← apL ty_bool 1 1 (#[.bool false] : Array Value) x5_6 x0
    M.pure x7_7
    )
theorem S_slices_Clone_slbool_bool (x0 : Sl) : Sound Go.Proofs.Try.prog 60 #[(x0 : Sl).v] (fun (r : Sl) => (r : Sl).v) (slices_Clone_slbool_bool x0) := by
  refine sound_of [(0, (x0 : Sl).v)] Go.Proofs.Try.func60 rfl rfl (Nat.le_of_ble_eq_true rfl) (args_of ⟨rfl, trivial⟩) (fun w0 w Q R a hret hE hR H => ?_)
  unfold slices_Clone_slbool_bool at H
  refine w_seq (fun K hK_1 => ?_)
  refine t_region ?_
  refine t_val (v := (Sl.nil : Sl).v) rfl rfl hE rfl (r_assign hE rfl) (fun a hE => ?_)
  refine t_nil ?_
  refine hK_1 _ _ ?_
  refine w_seq (fun K hK_2 => ?_)
  refine w_seq (fun K hK_3 => ?_)
  refine t_region ?_
  refine t_val (v := (x0 : Sl).v) rfl rfl hE rfl (r_move hE rfl) (fun a hE => ?_)
  refine t_val (v := .bool ((x0).base.isNone)) rfl rfl hE rfl (r_bin hE rfl rfl (g_sl (v := Sl.nil)) (b_eqlL un45)) (fun a hE => ?_)
  refine t_nil ?_
  refine hK_3 _ _ ?_
  refine w_cond ((x0).base.isNone) hE rfl (fun hb => ?_) (fun hb => ?_)
  · replace H := M.ite_t hb H
    refine w_seq (fun K hK_4 => ?_)
    refine t_region ?_
    refine t_val (v := (Sl.nil : Sl).v) rfl rfl hE rfl (r_assign hE rfl) (fun a hE => ?_)
    refine t_nil ?_
    refine hK_4 _ _ ?_
    refine w_ret ?_
    exact hret _ _ _ Sl.nil _ hE hR (res_run hE rfl (RV.tmp rfl RV.nil)) rfl H
  · replace H := M.ite_f hb H
    refine w_skip ?_
    refine hK_2 _ _ ?_
    refine w_seq (fun K hK_5 => ?_)
    refine t_region ?_
    obtain ⟨x5_6, qx5_6, H⟩ := H
    refine t_valh (v := (x5_6 : Sl).v) rfl rfl hE rfl hR (r_buildL (cells := #[]) hE rfl un45 sz4 zr4 rfl rfl qx5_6) (fun a w hE hR hh => ?_)
    replace H := M.at hh H; clear hh
    refine t_val (v := (x0 : Sl).v) rfl rfl hE rfl (r_move hE rfl) (fun a hE => ?_)
    refine t_ex (fun x7_7 => (x7_7 : Sl).v) rfl rfl hR (M.unbind H) (fun Q H => ap_run hE rfl rfl ap45 H) (fun x7_7 a w ea hR H => ?_)
    have hE := Env.put_some hE rfl ea; clear ea
    refine t_val (v := (x7_7 : Sl).v) rfl rfl hE rfl (r_assign hE rfl) (fun a hE => ?_)
    refine t_nil ?_
    refine hK_5 _ _ ?_
    refine w_ret ?_
    exact hret _ _ _ x7_7 _ hE hR (res_run hE rfl (RV.tmp rfl RV.nil)) rfl H

end Gx
namespace Gx
open Go
set_option linter.unusedVariables false
set_option maxRecDepth 100000
/-- maps.Clone[map[int]ramble/api.Sector,int,ramble/api.Sector] -/
def maps_Clone_map_int_api_Sector_int_api_Sector (x0 : Option Nat) : M (Option Nat) := do
  M.ite ((x0).isNone) (do
    M.pure (none : Option Nat)
    ) (do
    M.fail
    )
theorem S_maps_Clone_map_int_api_Sector_int_api_Sector (x0 : Option Nat) : Sound Go.Proofs.Try.prog 61 #[.map x0] (fun (r : Option Nat) => .map r) (maps_Clone_map_int_api_Sector_int_api_Sector x0) := by
  refine sound_of [(0, .map x0)] Go.Proofs.Try.func61 rfl rfl (Nat.le_of_ble_eq_true rfl) (args_of ⟨rfl, trivial⟩) (fun w0 w Q R a hret hE hR H => ?_)
  unfold maps_Clone_map_int_api_Sector_int_api_Sector at H
  refine w_seq (fun K hK_1 => ?_)
  refine t_region ?_
  refine t_val (v := .map (none : Option Nat)) rfl rfl hE rfl (r_assign hE rfl) (fun a hE => ?_)
  refine t_nil ?_
  refine hK_1 _ _ ?_
  refine w_seq (fun K hK_2 => ?_)
  refine w_seq (fun K hK_3 => ?_)
  refine t_region ?_
  refine t_val (v := .map x0) rfl rfl hE rfl (r_move hE rfl) (fun a hE => ?_)
  refine t_val (v := .bool ((x0).isNone)) rfl rfl hE rfl (r_bin hE rfl rfl g_mp (b_eqlM un64)) (fun a hE => ?_)
  refine t_nil ?_
  refine hK_3 _ _ ?_
  refine w_cond ((x0).isNone) hE rfl (fun hb => ?_) (fun hb => ?_)
  · replace H := M.ite_t hb H
    refine w_seq (fun K hK_4 => ?_)
    refine t_region ?_
    refine t_val (v := .map (none : Option Nat)) rfl rfl hE rfl (r_assign hE rfl) (fun a hE => ?_)
    refine t_nil ?_
    refine hK_4 _ _ ?_
    refine w_ret ?_
    exact hret _ _ _ (none : Option Nat) _ hE hR (res_run hE rfl (RV.tmp rfl RV.nil)) rfl H
  · replace H := M.ite_f hb H
    refine w_skip ?_
    refine hK_2 _ _ ?_
    refine w_seq (fun K hK_5 => ?_)
    exact False.elim H

/-- (*ramble/disk.Disk).Clone -/
noncomputable def ro34_4 : Array Oper := opsOf Go.Proofs.Try.f34 4
def tE34_4 : List (List Nat) := [[], [0], [1], [2], [3], [], [5], [6], [7], [8, 4], [], [10], [11], [12], [13, 9], [0, 1, 2, 3, 4, 8, 9, 13, 14], [15, 4, 14, 0, 1, 2, 3, 4, 8, 9, 13, 14], [0, 1, 2, 3, 4, 5, 6, 7, 8, 9, 13, 14, 15, 16], [17, 9, 16, 0, 1, 2, 3, 4, 5, 6, 7, 8, 9, 13, 14, 15, 16], [0, 1, 2, 3, 4, 5, 6, 7, 8, 9, 10, 11, 12, 13, 14, 15, 16, 17, 18], [19, 14, 18, 0, 1, 2, 3, 4, 5, 6, 7, 8, 9, 10, 11, 12, 13, 14, 15, 16, 17, 18]]
def tC34_4 : List (List Nat) := [[], [0], [1], [2], [3], [], [5], [6], [7], [8], [], [10], [11], [12], [13], [], [4, 15], [], [9, 17], [], [14, 19]]
def tW34_4 : List (List Nat) := [[], [0], [0, 1], [0, 1, 2], [0, 1, 2, 3], [], [5], [5, 6], [5, 6, 7], [0, 1, 2, 3, 4, 5, 6, 7, 8], [], [10], [10, 11], [10, 11, 12], [0, 1, 2, 3, 4, 5, 6, 7, 8, 9, 10, 11, 12, 13], [0, 1, 2, 3, 4, 5, 6, 7, 8, 9, 10, 11, 12, 13, 14], [0, 1, 2, 3, 4, 5, 6, 7, 8, 9, 10, 11, 12, 13, 14, 15], [0, 1, 2, 3, 4, 5, 6, 7, 8, 9, 10, 11, 12, 13, 14, 15, 16], [0, 1, 2, 3, 4, 5, 6, 7, 8, 9, 10, 11, 12, 13, 14, 15, 16, 17], [0, 1, 2, 3, 4, 5, 6, 7, 8, 9, 10, 11, 12, 13, 14, 15, 16, 17, 18], [0, 1, 2, 3, 4, 5, 6, 7, 8, 9, 10, 11, 12, 13, 14, 15, 16, 17, 18, 19]]
theorem tb34_4 : tabAt Go.Proofs.Try.f34 4 tE34_4 tC34_4 tW34_4 = true := by kernel_rfl
theorem tb34_4m : tabMB 21 tE34_4 tC34_4 tW34_4 [0, 1, 2, 4, 8, 0, 32, 64, 128, 272, 0, 1024, 2048, 4096, 8704, 25375, 58143, 123903, 254975, 524287, 1048575] [0, 1, 2, 4, 8, 0, 32, 64, 128, 256, 0, 1024, 2048, 4096, 8192, 0, 32784, 0, 131584, 0, 540672] [0, 1, 3, 7, 15, 0, 32, 96, 224, 511, 0, 1024, 3072, 7168, 16383, 32767, 65535, 131071, 262143, 524287, 1048575] = true := by kernel_rfl
def disk_Disk_Clone (x0 : Option Addr) : M (Option Addr) := do
  let x5_4 ← disk_Disk_none x0
  M.ite x5_4 (do
    M.pure (none : Option Addr)
    ) (do
    let x7_7 ← nilP x0
    let x8_8 ← ldG 6 x7_7
    let x3_9 ← mkB ty_disk_Disk (#[.slice none 0 0, .slice none 0 0, .map none, .bool false, .int .i64 0, .int .i64 0] : Array Value)
    M.need (x8_8.size = 6)
    stG x3_9 x8_8
    let x10_12 ← nilP x0
    let x15_13 ← nilP x0
    let x20_14 ← nilP x0
    let x12_15 ← ldL ((x10_12).add 0)
    let x17_16 ← ldL ((x15_13).add 1)
    let x22_17 ← ldMp ((x20_14).add 2)
    let x13_18 ← slices_Clone_slapi_Sector_api_Sector x12_15
    chk (fun h : Heap => (hcell h ((x10_12).add 0) = some ((x12_15 : Sl).v)) ∧ (hcell h ((x15_13).add 1) = some ((x17_16 : Sl).v)) ∧ (hcell h ((x20_14).add 2) = some (.map x22_17)))
    let x18_19 ← slices_Clone_slbool_bool x17_16
    chk (fun h : Heap => (hcell h ((x10_12).add 0) = some ((x12_15 : Sl).v)) ∧ (hcell h ((x15_13).add 1) = some ((x17_16 : Sl).v)) ∧ (hcell h ((x20_14).add 2) = some (.map x22_17)))
    let x23_20 ← maps_Clone_map_int_api_Sector_int_api_Sector x22_17
    stV ((x3_9).add 0) ((x13_18 : Sl).v)
    stV ((x3_9).add 1) ((x18_19 : Sl).v)
    stV ((x3_9).add 2) (.map x23_20)
    M.pure (some x3_9)
    )
theorem S_disk_Disk_Clone (x0 : Option Addr) : Sound Go.Proofs.Try.prog 34 #[.pointer x0] (fun (r : Option Addr) => .pointer r) (disk_Disk_Clone x0) := by
  refine sound_of [(0, .pointer x0)] Go.Proofs.Try.func34 rfl rfl (Nat.le_of_ble_eq_true rfl) (args_of ⟨rfl, trivial⟩) (fun w0 w Q R a hret hE hR H => ?_)
  unfold disk_Disk_Clone at H
  refine w_seq (fun K hK_1 => ?_)
  refine t_region ?_
  refine t_val (v := .pointer (none : Option Addr)) rfl rfl hE rfl (r_assign hE rfl) (fun a hE => ?_)
  refine t_nil ?_
  refine hK_1 _ _ ?_
  refine w_seq (fun K hK_2 => ?_)
  refine w_seq (fun K hK_3 => ?_)
  refine t_region ?_
  refine t_val (v := .pointer x0) rfl rfl hE rfl (r_move hE rfl) (fun a hE => ?_)
  refine t_call hE hR cl_disk_Disk_none rfl (S_disk_Disk_none x0) (M.unbind H) (fun x5_4 a w ea hR H => ?_)
  have hE := Env.put_some hE rfl ea; clear ea
  refine t_nil ?_
  refine hK_3 _ _ ?_
  refine w_cond x5_4 hE rfl (fun hb => ?_) (fun hb => ?_)
  · replace H := M.ite_t hb H
    refine w_seq (fun K hK_5 => ?_)
    refine t_region ?_
    refine t_val (v := .pointer (none : Option Addr)) rfl rfl hE rfl (r_assign hE rfl) (fun a hE => ?_)
    refine t_nil ?_
    refine hK_5 _ _ ?_
    refine w_ret ?_
    exact hret _ _ _ (none : Option Addr) _ hE hR (res_run hE rfl (RV.tmp rfl RV.nil)) rfl H
  · replace H := M.ite_f hb H
    refine w_skip ?_
    refine hK_2 _ _ ?_
    refine w_seq (fun K hK_6 => ?_)
    refine t_region ?_
    refine t_val (v := .pointer x0) rfl rfl hE rfl (r_move hE rfl) (fun a hE => ?_)
    obtain ⟨x7_7, qx7_7, H⟩ := H
    refine t_val (v := .pointer (some x7_7)) rfl rfl hE rfl (r_nilCheck hE (hx_eq rfl (congrArg Value.pointer qx7_7))) (fun a hE => ?_)
    obtain ⟨x8_8, qx8_8, H⟩ := H
    refine t_val (v := .agg x8_8) rfl rfl hE rfl (r_loadG hE rfl ag66 qx8_8) (fun a hE => ?_)
    obtain ⟨x3_9, qx3_9, H⟩ := H
    refine t_valh (v := .pointer (some x3_9)) rfl rfl hE rfl hR (r_alloc zr66 qx3_9) (fun a w hE hR hh => ?_)
    replace H := M.at hh H; clear hh
    obtain ⟨qz, H⟩ := H
    obtain ⟨u_10, qu_10, H⟩ := H
    refine t_sth rfl rfl hE hR (r_storeG hE rfl rfl sz66 qz qu_10) (fun a w hE hR hh => ?_)
    replace H := M.at hh H; clear hh
    refine t_nil ?_
    refine hK_6 _ _ ?_
    refine w_seq (fun K hK_11 => ?_)
    obtain ⟨x10_12, qx10_12, H⟩ := H
    obtain ⟨x15_13, qx15_13, H⟩ := H
    obtain ⟨x20_14, qx20_14, H⟩ := H
    obtain ⟨x12_15, qx12_15, H⟩ := H
    obtain ⟨x17_16, qx17_16, H⟩ := H
    obtain ⟨x22_17, qx22_17, H⟩ := H
    refine reg_eq (rops := ro34_4) (by kernel_rfl) ?_
    have hT : Tab ro34_4 _ _ _ := tab_of tb34_4 rfl (by kernel_rfl)
    have hM := TabM.of tb34_4m
    refine d_start (m := 21) (fun w : World => (fun h : Heap => (hcell h ((x10_12).add 0) = some ((x12_15 : Sl).v)) ∧ (hcell h ((x15_13).add 1) = some ((x17_16 : Sl).v)) ∧ (hcell h ((x20_14).add 2) = some (.map x22_17))) w.heap) [14, 15, 16, 17, 18, 19, 20] (unb 21 0) mo hR (by kernel_rfl) (by kernel_rfl) (fun w' e => by rw [e]; exact ⟨qx12_15, qx17_16, qx22_17⟩) (fun w hh hR hs => ?_)
    replace H := M.at hh H; clear hh
    refine d_pureg (i := 0) (v := .pointer x0) (unb 21 1) rfl rfl hT (anyM hM (by kernel_rfl)) hE rfl (wanted_none rfl) (fun w => r_move hE rfl) (fun a hE => ?_)
    refine d_pureg (i := 1) (v := .pointer (some x10_12)) (unb 21 3) rfl rfl hT (anyM hM (by kernel_rfl)) hE rfl (wanted_none rfl) (fun w => r_nilCheck hE (hx_eq rfl (congrArg Value.pointer qx10_12))) (fun a hE => ?_)
    refine d_pureg (i := 2) (v := .pointer (some ((x10_12).add 0))) (unb 21 7) rfl rfl hT (anyM hM (by kernel_rfl)) hE rfl (wanted_none rfl) (fun w => r_fieldAddr hE rfl fd66_0) (fun a hE => ?_)
    refine d_pureg (i := 5) (v := .pointer x0) (unb 21 39) rfl rfl hT (anyM hM (by kernel_rfl)) hE rfl (wanted_none rfl) (fun w => r_move hE rfl) (fun a hE => ?_)
    refine d_pureg (i := 6) (v := .pointer (some x15_13)) (unb 21 103) rfl rfl hT (anyM hM (by kernel_rfl)) hE rfl (wanted_none rfl) (fun w => r_nilCheck hE (hx_eq rfl (congrArg Value.pointer qx15_13))) (fun a hE => ?_)
    refine d_pureg (i := 7) (v := .pointer (some ((x15_13).add 1))) (unb 21 231) rfl rfl hT (anyM hM (by kernel_rfl)) hE rfl (wanted_none rfl) (fun w => r_fieldAddr hE rfl fd66_1) (fun a hE => ?_)
    refine d_pureg (i := 10) (v := .pointer x0) (unb 21 1255) rfl rfl hT (anyM hM (by kernel_rfl)) hE rfl (wanted_none rfl) (fun w => r_move hE rfl) (fun a hE => ?_)
    refine d_pureg (i := 11) (v := .pointer (some x20_14)) (unb 21 3303) rfl rfl hT (anyM hM (by kernel_rfl)) hE rfl (wanted_none rfl) (fun w => r_nilCheck hE (hx_eq rfl (congrArg Value.pointer qx20_14))) (fun a hE => ?_)
    refine d_pureg (i := 12) (v := .pointer (some ((x20_14).add 2))) (unb 21 7399) rfl rfl hT (anyM hM (by kernel_rfl)) hE rfl (wanted_none rfl) (fun w => r_fieldAddr hE rfl fd66_2) (fun a hE => ?_)
    refine d_read (i := 3) (v := (x12_15 : Sl).v) (unb 21 7407) rfl rfl hT (takeM hM (by kernel_rfl)) hE rfl (wanted_none rfl) hs (fun w s => r_load hE rfl sc63 s.1) (fun a hE => ?_)
    refine d_read (i := 8) (v := (x17_16 : Sl).v) (unb 21 7663) rfl rfl hT (takeM hM (by kernel_rfl)) hE rfl (wanted_none rfl) hs (fun w s => r_load hE rfl sc45 s.2.1) (fun a hE => ?_)
    refine d_read (i := 13) (v := .map x22_17) (unb 21 15855) rfl rfl hT (takeM hM (by kernel_rfl)) hE rfl (wanted_none rfl) hs (fun w s => r_load hE rfl sc64 s.2.2) (fun a hE => ?_)
    refine d_call (i := 4) (unb 21 15871) rfl rfl rfl hT (oneM hM (by kernel_rfl)) rfl hE hR (wanted_none rfl) cl_slices_Clone_slapi_Sector_api_Sector rfl (S_slices_Clone_slapi_Sector_api_Sector x12_15) (M.unbind H) (fun r h H w' e => by obtain ⟨_, sA, H⟩ := H; rw [e]; exact sA) (fun x13_18 a w ea hR H hs => ?_)
    obtain ⟨_, sA, H⟩ := H; clear sA
    have hE := Env.put_some hE rfl ea; clear ea
    refine d_call (i := 9) (unb 21 16383) rfl rfl rfl hT (oneM hM (by kernel_rfl)) rfl hE hR (wanted_none rfl) cl_slices_Clone_slbool_bool rfl (S_slices_Clone_slbool_bool x17_16) (M.unbind H) (fun r h H w' e => by obtain ⟨_, sA, H⟩ := H; rw [e]; exact sA) (fun x18_19 a w ea hR H hs => ?_)
    obtain ⟨_, sA, H⟩ := H; clear sA
    have hE := Env.put_some hE rfl ea; clear ea
    refine d_calll (i := 14) (unb 21 32767) rfl rfl rfl hT (oneM hM (by kernel_rfl)) rfl hE hR (wanted_none rfl) cl_maps_Clone_map_int_api_Sector_int_api_Sector rfl (S_maps_Clone_map_int_api_Sector_int_api_Sector x22_17) (M.unbind H) (fun x23_20 a w ea hR H => ?_)
    have hE := Env.put_some hE rfl ea; clear ea
    refine d_pureg (i := 15) (v := .pointer (some ((x3_9).add 0))) (unb 21 65535) rfl rfl hT (anyM hM (by kernel_rfl)) hE rfl (wanted_none rfl) (fun w => r_fieldAddr hE rfl fd66_0) (fun a hE => ?_)
    obtain ⟨u_21, qu_21, H⟩ := H
    refine d_stlh (i := 16) (unb 21 131071) rfl rfl hT (oneM hM (by kernel_rfl)) rfl hE hR (wanted_none rfl) (r_store hE rfl rfl sz63 qu_21)  (fun a w hE hR hh => ?_)
    replace H := M.at hh H; clear hh
    refine d_pureg (i := 17) (v := .pointer (some ((x3_9).add 1))) (unb 21 262143) rfl rfl hT (anyM hM (by kernel_rfl)) hE rfl (wanted_none rfl) (fun w => r_fieldAddr hE rfl fd66_1) (fun a hE => ?_)
    obtain ⟨u_22, qu_22, H⟩ := H
    refine d_stlh (i := 18) (unb 21 524287) rfl rfl hT (oneM hM (by kernel_rfl)) rfl hE hR (wanted_none rfl) (r_store hE rfl rfl sz45 qu_22)  (fun a w hE hR hh => ?_)
    replace H := M.at hh H; clear hh
    refine d_pureg (i := 19) (v := .pointer (some ((x3_9).add 2))) (unb 21 1048575) rfl rfl hT (anyM hM (by kernel_rfl)) hE rfl (wanted_none rfl) (fun w => r_fieldAddr hE rfl fd66_2) (fun a hE => ?_)
    obtain ⟨u_23, qu_23, H⟩ := H
    refine d_stlh (i := 20) (unb 21 2097151) rfl rfl hT (oneM hM (by kernel_rfl)) rfl hE hR (wanted_none rfl) (r_store hE rfl rfl sz64 qu_23)  (fun a w hE hR hh => ?_)
    replace H := M.at hh H; clear hh
    refine d_done hT (doneM hM (by kernel_rfl)) ?_
    refine hK_11 _ _ ?_
    refine w_seq (fun K hK_24 => ?_)
    refine t_region ?_
    refine t_val (v := .pointer (some x3_9)) rfl rfl hE rfl (r_assign hE rfl) (fun a hE => ?_)
    refine t_nil ?_
    refine hK_24 _ _ ?_
    refine w_ret ?_
    exact hret _ _ _ (some x3_9) _ hE hR (res_run hE rfl (RV.tmp rfl RV.nil)) rfl H

end Gx
