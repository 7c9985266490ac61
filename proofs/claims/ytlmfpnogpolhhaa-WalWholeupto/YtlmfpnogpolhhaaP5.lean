/- Printed by program: Go functions as Lean programs, each tied to its code. No condition. -/
import Derived.Test.YtlmfpnogpolhhaaP0
import Derived.Test.YtlmfpnogpolhhaaP1
import Derived.Test.YtlmfpnogpolhhaaP2
import Derived.Test.YtlmfpnogpolhhaaP3
import Derived.Test.YtlmfpnogpolhhaaP4
set_option linter.unusedVariables false
set_option linter.unusedSimpArgs false
namespace Gx
open Go
set_option linter.unusedVariables false
set_option maxRecDepth 100000
/-- ramble/rambleref06.Same -/
theorem tb15_6 : tabAt Go.Proofs.Try.f15 6 [[], [], [0, 1], [2], [3], [4], [], [], [6, 7], [8], [9, 4], [10], [5, 11]] [[], [], [0, 1], [2], [3], [4], [], [], [6, 7], [8], [9], [10], [5, 11]] [[], [], [0, 1], [0, 1, 2], [0, 1, 2, 3], [0, 1, 2, 3, 4], [], [], [6, 7], [6, 7, 8], [0, 1, 2, 3, 4, 6, 7, 8, 9], [0, 1, 2, 3, 4, 6, 7, 8, 9, 10], [0, 1, 2, 3, 4, 5, 6, 7, 8, 9, 10, 11]] = true := by kernel_rfl
def rambleref06_Same_l1 (c0_8 : Sl) (c1_9 : Sl) (self1 : (Int) → M (Bool)) : (Int) → M (Bool) := fun s => match s with
  | x5_7 => do
    M.ite (decide (x5_7 < (c0_8.len : Int))) (do
      let x19_15 ← ixL c0_8 x5_7 1
      let x25_16 ← ixL c1_9 x5_7 1
      let x20_17 ← ldL x19_15
      let x26_18 ← ldL x25_16
      let x21_19 ← rambleref06_commit x20_17
      chk (fun h : Heap => (hcell h x19_15 = some ((x20_17 : Sl).v)) ∧ (hcell h x25_16 = some ((x26_18 : Sl).v)))
      let y_31 ← do
        M.both (do
          let x22_23 ← b2s x21_19
          let x27_24 ← rambleref06_commit x26_18
          let x28_25 ← b2s x27_24
          M.pure (x22_23, x27_24, x28_25, !(sEq x22_23 x28_25))
          ) (do
          let x27_26 ← rambleref06_commit x26_18
          chk (fun h : Heap => (hcell h x19_15 = some ((x20_17 : Sl).v)) ∧ (hcell h x25_16 = some ((x26_18 : Sl).v)))
          M.both (do
            let x22_27 ← b2s x21_19
            let x28_28 ← b2s x27_26
            M.pure (x22_27, x27_26, x28_28, !(sEq x22_27 x28_28))
            ) (do
            let x28_29 ← b2s x27_26
            let x22_30 ← b2s x21_19
            M.pure (x22_30, x27_26, x28_29, !(sEq x22_30 x28_29))
            )
          )
      M.ite y_31.2.2.2 (do
        M.pure false
        ) (do
        self1 (IntKind.wrap .i64 (x5_7 + 1))
        )
      ) (do
      M.pure true
      )
def rambleref06_Same (x0 : Sl) (x1 : Sl) : M (Bool) := do
  M.ite ((x0.len : Int) != (x1.len : Int)) (do
    M.pure false
    ) (do
    M.loop (rambleref06_Same_l1 x0 x1) 0
    )
theorem S_rambleref06_Same (x0 : Sl) (x1 : Sl) : Sound Go.Proofs.Try.prog 15 #[(x0 : Sl).v, (x1 : Sl).v] (fun (r : Bool) => .bool r) (rambleref06_Same x0 x1) := by
  refine sound_of [(0, (x0 : Sl).v), (1, (x1 : Sl).v)] Go.Proofs.Try.func15 rfl rfl (Nat.le_of_ble_eq_true rfl) (args_of ⟨rfl, rfl, trivial⟩) (fun w0 w Q R a hret hE hR H => ?_)
  unfold rambleref06_Same at H
  refine w_seq (fun K hK_1 => ?_)
  refine t_region ?_
  refine t_val (v := .bool false) rfl rfl hE rfl (r_assign hE rfl) (fun a hE => ?_)
  refine t_nil ?_
  refine hK_1 _ _ ?_
  refine w_seq (fun K hK_2 => ?_)
  refine w_seq (fun K hK_3 => ?_)
  refine t_region ?_
  refine t_val (v := (x0 : Sl).v) rfl rfl hE rfl (r_move hE rfl) (fun a hE => ?_)
  refine t_val (v := .int .i64 (x0.len : Int)) rfl rfl hE rfl (r_len hE rfl 32 un22) (fun a hE => ?_)
  refine t_val (v := (x1 : Sl).v) rfl rfl hE rfl (r_move hE rfl) (fun a hE => ?_)
  refine t_val (v := .int .i64 (x1.len : Int)) rfl rfl hE rfl (r_len hE rfl 32 un22) (fun a hE => ?_)
  refine t_val (v := .bool ((x0.len : Int) != (x1.len : Int))) rfl rfl hE rfl (r_bin hE rfl rfl g_int b_neq) (fun a hE => ?_)
  refine t_nil ?_
  refine hK_3 _ _ ?_
  refine w_cond ((x0.len : Int) != (x1.len : Int)) hE rfl (fun hb => ?_) (fun hb => ?_)
  · replace H := M.ite_t hb H
    refine w_seq (fun K hK_4 => ?_)
    refine t_region ?_
    refine t_val (v := .bool false) rfl rfl hE rfl (r_assign hE rfl) (fun a hE => ?_)
    refine t_nil ?_
    refine hK_4 _ _ ?_
    refine w_ret ?_
    exact hret _ _ _ false _ hE hR (res_run hE rfl (RV.tmp rfl RV.nil)) rfl H
  · replace H := M.ite_f hb H
    refine w_skip ?_
    refine hK_2 _ _ ?_
    refine w_seq (fun K hK_5 => ?_)
    refine w_seq (fun K hK_6 => ?_)
    refine t_region ?_
    refine t_val (v := .int .i64 0) rfl rfl hE rfl (r_assign hE rfl) (fun a hE => ?_)
    refine t_nil ?_
    refine hK_6 _ _ ?_
    refine w_block ?_
    refine l_loop (fun (s : Int) => (⟨30, []⟩ : Frm)) (fun (s : Int) => [(0, (x0 : Sl).v), (1, (x1 : Sl).v), (5, .int .i64 s)]) H (hE.cut (.cons rfl (.cons rfl (.cons rfl Subs.nil)))) hR (fun Y self1 hY_10 x5_7 a w hE hR H => ?_)
    replace hE : Env (⟨30, []⟩ : Frm) a [(0, (x0 : Sl).v), (1, (x1 : Sl).v), (5, .int .i64 x5_7)] := hE
    replace H : (rambleref06_Same_l1 x0 x1 self1 x5_7).wp w.heap Q := H
    unfold rambleref06_Same_l1 at H
    refine w_seq (fun K hK_11 => ?_)
    refine w_seq (fun K hK_12 => ?_)
    refine t_region ?_
    refine t_val (v := .int .i64 x5_7) rfl rfl hE rfl (r_move hE rfl) (fun a hE => ?_)
    refine t_val (v := (x0 : Sl).v) rfl rfl hE rfl (r_move hE rfl) (fun a hE => ?_)
    refine t_val (v := .int .i64 (x0.len : Int)) rfl rfl hE rfl (r_len hE rfl 32 un22) (fun a hE => ?_)
    refine t_val (v := .bool (decide (x5_7 < (x0.len : Int)))) rfl rfl hE rfl (r_bin hE rfl rfl g_int b_lss) (fun a hE => ?_)
    refine t_nil ?_
    refine hK_12 _ _ ?_
    refine w_cond (decide (x5_7 < (x0.len : Int))) hE rfl (fun hb => ?_) (fun hb => ?_)
    · replace H := M.ite_t hb H
      refine w_skip ?_
      refine hK_11 _ _ ?_
      refine w_seq (fun K hK_13 => ?_)
      refine w_block ?_
      refine w_seq (fun K hK_14 => ?_)
      obtain ⟨x19_15, qx19_15, H⟩ := H
      obtain ⟨x25_16, qx25_16, H⟩ := H
      obtain ⟨x20_17, qx20_17, H⟩ := H
      obtain ⟨x26_18, qx26_18, H⟩ := H
      have hT := tab_of tb15_6 rfl rfl
      refine d_start (fun w : World => (fun h : Heap => (hcell h x19_15 = some ((x20_17 : Sl).v)) ∧ (hcell h x25_16 = some ((x26_18 : Sl).v))) w.heap) [10, 11, 12] #[false, false, false, false, false, false, false, false, false, false, false, false, false] mo hR rfl rfl (fun w' e => by rw [e]; exact ⟨qx20_17, qx26_18⟩) (fun w hh hR hs => ?_)
      replace H := M.at hh H; clear hh
      refine d_pureg (i := 0) (v := (x0 : Sl).v) #[true, false, false, false, false, false, false, false, false, false, false, false, false] rfl rfl hT (by kernel_rfl) hE rfl (wanted_none rfl) (fun w => r_move hE rfl) (fun a hE => ?_)
      refine d_pureg (i := 1) (v := .int .i64 x5_7) #[true, true, false, false, false, false, false, false, false, false, false, false, false] rfl rfl hT (by kernel_rfl) hE rfl (wanted_none rfl) (fun w => r_move hE rfl) (fun a hE => ?_)
      refine d_pureg (i := 2) (v := .pointer (some x19_15)) #[true, true, true, false, false, false, false, false, false, false, false, false, false] rfl rfl hT (by kernel_rfl) hE rfl (wanted_none rfl) (fun w => r_indexAddrL hE rfl rfl un22 sz32 qx19_15) (fun a hE => ?_)
      refine d_pureg (i := 6) (v := (x1 : Sl).v) #[true, true, true, false, false, false, true, false, false, false, false, false, false] rfl rfl hT (by kernel_rfl) hE rfl (wanted_none rfl) (fun w => r_move hE rfl) (fun a hE => ?_)
      refine d_pureg (i := 7) (v := .int .i64 x5_7) #[true, true, true, false, false, false, true, true, false, false, false, false, false] rfl rfl hT (by kernel_rfl) hE rfl (wanted_none rfl) (fun w => r_move hE rfl) (fun a hE => ?_)
      refine d_pureg (i := 8) (v := .pointer (some x25_16)) #[true, true, true, false, false, false, true, true, true, false, false, false, false] rfl rfl hT (by kernel_rfl) hE rfl (wanted_none rfl) (fun w => r_indexAddrL hE rfl rfl un22 sz32 qx25_16) (fun a hE => ?_)
      refine d_read (i := 3) (v := (x20_17 : Sl).v) #[true, true, true, true, false, false, true, true, true, false, false, false, false] rfl rfl hT (by kernel_rfl) hE rfl (wanted_none rfl) hs (fun w s => r_load hE rfl sc32 s.1) (fun a hE => ?_)
      refine d_read (i := 9) (v := (x26_18 : Sl).v) #[true, true, true, true, false, false, true, true, true, true, false, false, false] rfl rfl hT (by kernel_rfl) hE rfl (wanted_none rfl) hs (fun w s => r_load hE rfl sc32 s.2) (fun a hE => ?_)
      refine d_call (i := 4) #[true, true, true, true, true, false, true, true, true, true, false, false, false] rfl rfl rfl hT (by kernel_rfl) rfl hE hR (wanted_none rfl) cl_rambleref06_commit rfl (S_rambleref06_commit x20_17) (M.unbind H) (fun r h H w' e => by obtain ⟨_, sA, H⟩ := H; rw [e]; exact sA) (fun x21_19 a w ea hR H hs => ?_)
      obtain ⟨_, sA, H⟩ := H; clear sA
      have hE := Env.put_some hE rfl ea; clear ea
      refine d_join (n := (⟨30, []⟩ : Frm)) (w0 := w0) (fun y_31 : ByteArray × Sl × ByteArray × Bool => [(0, (x0 : Sl).v), (1, (x1 : Sl).v), (5, .int .i64 x5_7), (11, .int .i64 x5_7), (12, (x0 : Sl).v), (13, .int .i64 (x0.len : Int)), (14, .bool (decide (x5_7 < (x0.len : Int)))), (17, (x0 : Sl).v), (18, .int .i64 x5_7), (19, .pointer (some x19_15)), (23, (x1 : Sl).v), (24, .int .i64 x5_7), (25, .pointer (some x25_16)), (20, (x20_17 : Sl).v), (26, (x26_18 : Sl).v), (21, (x21_19 : Sl).v), (22, .string y_31.1), (27, (y_31.2.1 : Sl).v), (28, .string y_31.2.2.1), (29, .bool y_31.2.2.2)]) 0 #[true, true, true, true, true, true, true, true, true, true, true, true, true] (M.unbind H) ?_ ?_
      · intro y_31 a w hE hR H
        refine d_done hT (by kernel_rfl) ?_
        refine hK_14 _ _ ?_
        refine w_cond y_31.2.2.2 hE rfl (fun hb => ?_) (fun hb => ?_)
        · replace H := M.ite_t hb H
          refine w_seq (fun K hK_32 => ?_)
          refine t_region ?_
          refine t_val (v := .bool false) rfl rfl hE rfl (r_assign hE rfl) (fun a hE => ?_)
          refine t_nil ?_
          refine hK_32 _ _ ?_
          refine w_ret ?_
          exact hret _ _ _ false _ hE hR (res_run hE rfl (RV.tmp rfl RV.nil)) rfl H
        · replace H := M.ite_f hb H
          refine w_skip ?_
          refine hK_13 _ _ ?_
          refine t_region ?_
          refine t_val (v := .int .i64 x5_7) rfl rfl hE rfl (r_move hE rfl) (fun a hE => ?_)
          refine t_val (v := .int .i64 (IntKind.wrap .i64 (x5_7 + 1))) rfl rfl hE rfl (r_bin hE rfl rfl g_int b_add) (fun a hE => ?_)
          refine t_val (v := .int .i64 (IntKind.wrap .i64 (x5_7 + 1))) rfl rfl hE rfl (r_assign hE rfl) (fun a hE => ?_)
          refine t_nil ?_
          exact hY_10 (IntKind.wrap .i64 (x5_7 + 1)) _ _ (hE.cut (.cons rfl (.cons rfl (.cons rfl Subs.nil)))) hR H
      · intro hj H
        refine d_pick [5, 10] hT (by kernel_rfl) rfl (fun i hi => ?_)
        simp only [List.mem_cons, List.not_mem_nil, or_false] at hi
        rcases hi with rfl | rfl
        · replace H := H.1
          obtain ⟨x22_23, qx22_23, H⟩ := H
          refine p_val (S := fun w : World => (fun h : Heap => (hcell h x19_15 = some ((x20_17 : Sl).v)) ∧ (hcell h x25_16 = some ((x26_18 : Sl).v))) w.heap) (i := 5) (v := .string x22_23) #[true, true, true, true, true, true, true, true, true, true, false, false, false] rfl rfl (by kernel_rfl) hE hR rfl (wanted_none rfl) (b2s_run hE rfl un30 un9 un5 qx22_23) ⟨rfl, rfl⟩ (fun w' e => by rw [e]; exact hs) (fun a w hE hR hh hs => ?_)
          replace H := M.at hh H; clear hh
          refine d_calll (i := 10) #[true, true, true, true, true, true, true, true, true, true, true, false, false] rfl rfl rfl hT (by kernel_rfl) rfl hE hR (wanted_none rfl) cl_rambleref06_commit rfl (S_rambleref06_commit x26_18) (M.unbind H) (fun x27_24 a w ea hR H => ?_)
          have hE := Env.put_some hE rfl ea; clear ea
          obtain ⟨x28_25, qx28_25, H⟩ := H
          refine d_last (i := 11) (v := .string x28_25) #[true, true, true, true, true, true, true, true, true, true, true, true, false] rfl rfl hT (by kernel_rfl) rfl hE hR rfl (wanted_none rfl) (b2s_run hE rfl un30 un9 un5 qx28_25) ⟨rfl, rfl⟩ (fun a w hE hR hh => ?_)
          replace H := M.at hh H; clear hh
          refine d_pureg (i := 12) (v := .bool (!(sEq x22_23 x28_25))) #[true, true, true, true, true, true, true, true, true, true, true, true, true] rfl rfl hT (by kernel_rfl) hE rfl (wanted_none rfl) (fun w => r_bin hE rfl rfl g_str b_neqS) (fun a hE => ?_)
          exact hj _ _ _ (hE.cut (.cons rfl (.cons rfl (.cons rfl (.cons rfl (.cons rfl (.cons rfl (.cons rfl (.cons rfl (.cons rfl (.cons rfl (.cons rfl (.cons rfl (.cons rfl (.cons rfl (.cons rfl (.cons rfl (.cons rfl (.cons rfl (.cons rfl (.cons rfl Subs.nil))))))))))))))))))))) hR H
        · replace H := H.2
          refine p_call (S := fun w : World => (fun h : Heap => (hcell h x19_15 = some ((x20_17 : Sl).v)) ∧ (hcell h x25_16 = some ((x26_18 : Sl).v))) w.heap) (i := 10) #[true, true, true, true, true, false, true, true, true, true, true, false, false] rfl rfl rfl (by kernel_rfl) hE hR (wanted_none rfl) cl_rambleref06_commit rfl (S_rambleref06_commit x26_18) (M.unbind H) (fun r h H w' e => by obtain ⟨_, sA, H⟩ := H; rw [e]; exact sA) (fun x27_26 a w ea hR H hs => ?_)
          obtain ⟨_, sA, H⟩ := H; clear sA
          have hE := Env.put_some hE rfl ea; clear ea
          refine d_pick [5, 11] hT (by kernel_rfl) rfl (fun i hi => ?_)
          simp only [List.mem_cons, List.not_mem_nil, or_false] at hi
          rcases hi with rfl | rfl
          · replace H := H.1
            obtain ⟨x22_27, qx22_27, H⟩ := H
            refine p_val (S := fun w : World => (fun h : Heap => (hcell h x19_15 = some ((x20_17 : Sl).v)) ∧ (hcell h x25_16 = some ((x26_18 : Sl).v))) w.heap) (i := 5) (v := .string x22_27) #[true, true, true, true, true, true, true, true, true, true, true, false, false] rfl rfl (by kernel_rfl) hE hR rfl (wanted_none rfl) (b2s_run hE rfl un30 un9 un5 qx22_27) ⟨rfl, rfl⟩ (fun w' e => by rw [e]; exact hs) (fun a w hE hR hh hs => ?_)
            replace H := M.at hh H; clear hh
            obtain ⟨x28_28, qx28_28, H⟩ := H
            refine d_last (i := 11) (v := .string x28_28) #[true, true, true, true, true, true, true, true, true, true, true, true, false] rfl rfl hT (by kernel_rfl) rfl hE hR rfl (wanted_none rfl) (b2s_run hE rfl un30 un9 un5 qx28_28) ⟨rfl, rfl⟩ (fun a w hE hR hh => ?_)
            replace H := M.at hh H; clear hh
            refine d_pureg (i := 12) (v := .bool (!(sEq x22_27 x28_28))) #[true, true, true, true, true, true, true, true, true, true, true, true, true] rfl rfl hT (by kernel_rfl) hE rfl (wanted_none rfl) (fun w => r_bin hE rfl rfl g_str b_neqS) (fun a hE => ?_)
            exact hj _ _ _ (hE.cut (.cons rfl (.cons rfl (.cons rfl (.cons rfl (.cons rfl (.cons rfl (.cons rfl (.cons rfl (.cons rfl (.cons rfl (.cons rfl (.cons rfl (.cons rfl (.cons rfl (.cons rfl (.cons rfl (.cons rfl (.cons rfl (.cons rfl (.cons rfl Subs.nil))))))))))))))))))))) hR H
          · replace H := H.2
            obtain ⟨x28_29, qx28_29, H⟩ := H
            refine p_val (S := fun w : World => (fun h : Heap => (hcell h x19_15 = some ((x20_17 : Sl).v)) ∧ (hcell h x25_16 = some ((x26_18 : Sl).v))) w.heap) (i := 11) (v := .string x28_29) #[true, true, true, true, true, false, true, true, true, true, true, true, false] rfl rfl (by kernel_rfl) hE hR rfl (wanted_none rfl) (b2s_run hE rfl un30 un9 un5 qx28_29) ⟨rfl, rfl⟩ (fun w' e => by rw [e]; exact hs) (fun a w hE hR hh hs => ?_)
            replace H := M.at hh H; clear hh
            obtain ⟨x22_30, qx22_30, H⟩ := H
            refine d_one (i := 5) (v := .string x22_30) #[true, true, true, true, true, true, true, true, true, true, true, true, false] rfl rfl hT (by kernel_rfl) rfl hE hR rfl (wanted_none rfl) (b2s_run hE rfl un30 un9 un5 qx22_30) ⟨rfl, rfl⟩ (fun w' e => by rw [e]; exact hs) (fun a w hE hR hh hs => ?_)
            replace H := M.at hh H; clear hh
            refine d_pureg (i := 12) (v := .bool (!(sEq x22_30 x28_29))) #[true, true, true, true, true, true, true, true, true, true, true, true, true] rfl rfl hT (by kernel_rfl) hE rfl (wanted_none rfl) (fun w => r_bin hE rfl rfl g_str b_neqS) (fun a hE => ?_)
            exact hj _ _ _ (hE.cut (.cons rfl (.cons rfl (.cons rfl (.cons rfl (.cons rfl (.cons rfl (.cons rfl (.cons rfl (.cons rfl (.cons rfl (.cons rfl (.cons rfl (.cons rfl (.cons rfl (.cons rfl (.cons rfl (.cons rfl (.cons rfl (.cons rfl (.cons rfl Subs.nil))))))))))))))))))))) hR H
    · replace H := M.ite_f hb H
      refine w_exit ?_
      refine Xu.same ?_
      refine hK_5 _ _ ?_
      refine w_seq (fun K hK_33 => ?_)
      refine t_region ?_
      refine t_val (v := .bool true) rfl rfl hE rfl (r_assign hE rfl) (fun a hE => ?_)
      refine t_nil ?_
      refine hK_33 _ _ ?_
      refine w_ret ?_
      exact hret _ _ _ true _ hE hR (res_run hE rfl (RV.tmp rfl RV.nil)) rfl H

/-- slices.AppendSeq[[]int,int] -/
def slices_AppendSeq_slint_int_y1 (c2_5 : Addr) (lp1 : Nat) : (Int) → M Nat := fun x => match x with
  | x7_6 => do
    let _ ← beg lp1
    let x8_7 ← ldL c2_5
    let x10_8 ← bdL ty_int 1 #[.int .i64 x7_6]
    let x11_9 ← apL ty_int 1 8 (#[.int .i64 0] : Array Value) x8_7 x10_8
    stV c2_5 ((x11_9 : Sl).v)
    M.pure 0
def slices_AppendSeq_slint_int (x0 : Sl) (x1 : Value) : M (Sl) := do
  let x2_2 ← mkB ty_sl_int #[(x0 : Sl).v]
  let j_11 ← rgF Go.Proofs.Try.prog (fun x : Int => [.int .i64 x]) [] (slices_AppendSeq_slint_int_y1 x2_2) x1
  let x12_13 ← ldL x2_2
  let _ ← shut (j_11.2 :: [])
  M.pure x12_13
theorem S_slices_AppendSeq_slint_int (x0 : Sl) (x1 : Value) : Sound Go.Proofs.Try.prog 79 #[(x0 : Sl).v, x1] (fun (r : Sl) => (r : Sl).v) (slices_AppendSeq_slint_int x0 x1) := by
  refine sound_ofM [(0, (x0 : Sl).v), (1, x1)] Go.Proofs.Try.func79 rfl rfl (Nat.le_of_ble_eq_true rfl) (args_of ⟨rfl, rfl, trivial⟩) (fun w0 w Q R a hret hE hR H => ?_)
  unfold slices_AppendSeq_slint_int at H
  refine w_seq (fun K hK_1 => ?_)
  refine t_region ?_
  obtain ⟨x2_2, qx2_2, H⟩ := H
  refine t_valh (v := .pointer (some x2_2)) rfl rfl hE rfl hR (r_box hE rfl qx2_2) (fun a w hE hR hh => ?_)
  replace H := M.at hh H; clear hh
  refine t_val (v := (Sl.nil : Sl).v) rfl rfl hE rfl (r_assign hE rfl) (fun a hE => ?_)
  refine t_nil ?_
  refine hK_1 _ _ ?_
  refine w_seq (fun K hK_3 => ?_)
  refine w_seq (fun K hK_4 => ?_)
  refine t_region ?_
  refine t_val (v := x1) rfl rfl hE rfl (r_move hE rfl) (fun a hE => ?_)
  refine t_nil ?_
  refine hK_4 _ _ ?_
  refine w_block ?_
  refine w_rangeF (js := []) (enc := (fun x : Int => [.int .i64 x])) (Y := (slices_AppendSeq_slint_int_y1 x2_2)) hE hR rfl (fun x => rfl) rfl (M.unbind H) (fun lp1 x7_6 Q w0 Rr hfin a w hE hR H => ?_) (fun j_11 a w hE hR H => ?_)
  · skip
    replace hE : Env (⟨13, []⟩ : Frm) a [(2, .pointer (some x2_2)), (7, .int .i64 x7_6)] := Env.cut hE (.cons rfl (.cons rfl Subs.nil))
    replace H : (slices_AppendSeq_slint_int_y1 x2_2 lp1 x7_6).wp w.heap Q := H
    unfold slices_AppendSeq_slint_int_y1 at H
    refine t_region ?_
    refine t_val (v := .int .i64 x7_6) rfl rfl hE rfl (r_assign hE rfl) (fun a hE => ?_)
    refine t_nil ?_
    refine beg_w hR H (fun w hR H => ?_)
    refine w_block ?_
    refine t_region ?_
    obtain ⟨x8_7, qx8_7, H⟩ := H
    refine t_val (v := (x8_7 : Sl).v) rfl rfl hE rfl (r_load hE rfl sc54 qx8_7) (fun a hE => ?_)
    refine t_val (v := .int .i64 x7_6) rfl rfl hE rfl (r_move hE rfl) (fun a hE => ?_)
    obtain ⟨x10_8, qx10_8, H⟩ := H
    refine t_valh (v := (x10_8 : Sl).v) rfl rfl hE rfl hR (r_buildL (cells := #[.int .i64 x7_6]) hE rfl un54 sz3 zr3 rfl rfl qx10_8) (fun a w hE hR hh => ?_)
    replace H := M.at hh H; clear hh
    refine t_ex (fun x11_9 => (x11_9 : Sl).v) rfl rfl hR (M.unbind H) (fun Q H => ap_run hE rfl rfl ap54 H) (fun x11_9 a w ea hR H => ?_)
    have hE := Env.put_some hE rfl ea; clear ea
    obtain ⟨u_10, qu_10, H⟩ := H
    refine t_sth rfl rfl hE hR (r_store hE rfl rfl sz54 qu_10) (fun a w hE hR hh => ?_)
    replace H := M.at hh H; clear hh
    refine t_nil ?_
    exact hfin 0 _ _ hR H
  · skip
    replace hE : Env (⟨13, (j_11.2 :: [])⟩ : Frm) a [(2, .pointer (some x2_2)), (4, (Sl.nil : Sl).v)] := Env.cut hE (.cons rfl (.cons rfl Subs.nil))
    refine jgo_nil ?_
    refine hK_3 _ _ ?_
    refine w_seq (fun K hK_12 => ?_)
    refine t_region ?_
    obtain ⟨x12_13, qx12_13, H⟩ := H
    refine t_val (v := (x12_13 : Sl).v) rfl rfl hE rfl (r_load hE rfl sc54 qx12_13) (fun a hE => ?_)
    refine t_val (v := (x12_13 : Sl).v) rfl rfl hE rfl (r_assign hE rfl) (fun a hE => ?_)
    refine t_nil ?_
    refine hK_12 _ _ ?_
    refine w_ret ?_
    refine hret _ _ _ _ _ hE hR (M.unbind H) (fun w hR H => ?_)
    exact ⟨x12_13, _, res_run hE rfl (RV.tmp rfl RV.nil), rfl, H⟩

/-- slices.Collect[int] -/
def slices_Collect_int (x0 : Value) : M (Sl) := do
  let x4_3 ← slices_AppendSeq_slint_int Sl.nil x0
  M.pure x4_3
theorem S_slices_Collect_int (x0 : Value) : Sound Go.Proofs.Try.prog 71 #[x0] (fun (r : Sl) => (r : Sl).v) (slices_Collect_int x0) := by
  refine sound_of [(0, x0)] Go.Proofs.Try.func71 rfl rfl (Nat.le_of_ble_eq_true rfl) (args_of ⟨rfl, trivial⟩) (fun w0 w Q R a hret hE hR H => ?_)
  unfold slices_Collect_int at H
  refine w_seq (fun K hK_1 => ?_)
  refine t_region ?_
  refine t_val (v := (Sl.nil : Sl).v) rfl rfl hE rfl (r_assign hE rfl) (fun a hE => ?_)
  refine t_nil ?_
  refine hK_1 _ _ ?_
  refine w_seq (fun K hK_2 => ?_)
  refine t_region ?_
  refine t_val (v := x0) rfl rfl hE rfl (r_move hE rfl) (fun a hE => ?_)
  refine t_call hE hR cl_slices_AppendSeq_slint_int rfl (S_slices_AppendSeq_slint_int Sl.nil x0) (M.unbind H) (fun x4_3 a w ea hR H => ?_)
  have hE := Env.put_some hE rfl ea; clear ea
  refine t_val (v := (x4_3 : Sl).v) rfl rfl hE rfl (r_assign hE rfl) (fun a hE => ?_)
  refine t_nil ?_
  refine hK_2 _ _ ?_
  refine w_ret ?_
  exact hret _ _ _ x4_3 _ hE hR (res_run hE rfl (RV.tmp rfl RV.nil)) rfl H

/-- slices.Sorted[int] -/
def slices_Sorted_int (x0 : Value) : M (Sl) := do
  let x5_3 ← slices_Collect_int x0
  let x7_5 ← slices_Sort_slint_int x5_3
  M.pure x5_3
theorem S_slices_Sorted_int (x0 : Value) : Sound Go.Proofs.Try.prog 55 #[x0] (fun (r : Sl) => (r : Sl).v) (slices_Sorted_int x0) := by
  refine sound_of [(0, x0)] Go.Proofs.Try.func55 rfl rfl (Nat.le_of_ble_eq_true rfl) (args_of ⟨rfl, trivial⟩) (fun w0 w Q R a hret hE hR H => ?_)
  unfold slices_Sorted_int at H
  refine w_seq (fun K hK_1 => ?_)
  refine t_region ?_
  refine t_val (v := (Sl.nil : Sl).v) rfl rfl hE rfl (r_assign hE rfl) (fun a hE => ?_)
  refine t_nil ?_
  refine hK_1 _ _ ?_
  refine w_seq (fun K hK_2 => ?_)
  refine t_region ?_
  refine t_val (v := x0) rfl rfl hE rfl (r_move hE rfl) (fun a hE => ?_)
  refine t_call hE hR cl_slices_Collect_int rfl (S_slices_Collect_int x0) (M.unbind H) (fun x5_3 a w ea hR H => ?_)
  have hE := Env.put_some hE rfl ea; clear ea
  refine t_val (v := (x5_3 : Sl).v) rfl rfl hE rfl (r_assign hE rfl) (fun a hE => ?_)
  refine t_nil ?_
  refine hK_2 _ _ ?_
  refine w_seq (fun K hK_4 => ?_)
  refine t_region ?_
  refine t_val (v := (x5_3 : Sl).v) rfl rfl hE rfl (r_move hE rfl) (fun a hE => ?_)
  refine t_call hE hR cl_slices_Sort_slint_int rfl (S_slices_Sort_slint_int x5_3) (M.unbind H) (fun x7_5 a w ea hR H => ?_)
  have hE := Env.put_some hE rfl ea; clear ea
  refine t_nil ?_
  refine hK_4 _ _ ?_
  refine w_seq (fun K hK_6 => ?_)
  refine t_region ?_
  refine t_val (v := (x5_3 : Sl).v) rfl rfl hE rfl (r_move hE rfl) (fun a hE => ?_)
  refine t_val (v := (x5_3 : Sl).v) rfl rfl hE rfl (r_assign hE rfl) (fun a hE => ?_)
  refine t_nil ?_
  refine hK_6 _ _ ?_
  refine w_ret ?_
  exact hret _ _ _ x5_3 _ hE hR (res_run hE rfl (RV.tmp rfl RV.nil)) rfl H

/-- maps.Keys[map[int]ramble/api.Sector,int,ramble/api.Sector]$1 -/
def maps_Keys_map_int_api_Sector_int_api_Sector_1_l1 (c0_4 : Value) (c5_5 : Addr) (self1 : (Unit) → M (Unit)) : (Unit) → M (Unit) := fun s => match s with
  | () => do
    let x6_8 ← nxM c5_5
    let x7_9 ← exB x6_8 0
    M.ite x7_9 (do
      let x8_12 ← enM c5_5
      let x9_13 ← exI .i64 x8_12.1
      let x12_15 ← callV Go.Proofs.Try.prog (fun r : Bool => .bool r) c0_4 [.int .i64 x9_13]
      M.ite (!x12_15) (do
        M.pure ()
        ) (do
        self1 ()
        )
      ) (do
      M.pure ()
      )
def maps_Keys_map_int_api_Sector_int_api_Sector_1 (x0 : Value) (x1 : Addr) : M (Unit) := do
  let x4_2 ← ldMp x1
  let x5_3 ← rgM x4_2
  M.loop (maps_Keys_map_int_api_Sector_int_api_Sector_1_l1 x0 x5_3) ()
theorem S_maps_Keys_map_int_api_Sector_int_api_Sector_1 (x0 : Value) (x1 : Addr) : Sound Go.Proofs.Try.prog 73 #[x0, .pointer (some x1)] (fun (r : Unit) => .tuple #[]) (maps_Keys_map_int_api_Sector_int_api_Sector_1 x0 x1) := by
  refine sound_of [(0, x0), (1, .pointer (some x1))] Go.Proofs.Try.func73 rfl rfl (Nat.le_of_ble_eq_true rfl) (args_of ⟨rfl, rfl, trivial⟩) (fun w0 w Q R a hret hE hR H => ?_)
  unfold maps_Keys_map_int_api_Sector_int_api_Sector_1 at H
  refine w_seq (fun K hK_1 => ?_)
  refine t_region ?_
  obtain ⟨x4_2, qx4_2, H⟩ := H
  refine t_val (v := .map x4_2) rfl rfl hE rfl (r_load hE rfl sc64 qx4_2) (fun a hE => ?_)
  obtain ⟨x5_3, qx5_3, H⟩ := H
  refine t_valh (v := .pointer (some x5_3)) rfl rfl hE rfl hR (r_range hE rfl un64 qx5_3) (fun a w hE hR hh => ?_)
  replace H := M.at hh H; clear hh
  refine t_nil ?_
  refine hK_1 _ _ ?_
  refine w_block ?_
  refine l_loop (fun (s : Unit) => (⟨14, []⟩ : Frm)) (fun (s : Unit) => [(0, x0), (5, .pointer (some x5_3))]) H (hE.cut (.cons rfl (.cons rfl Subs.nil))) hR (fun Y self1 hY_6 s a w hE hR H => ?_)
  cases s
  replace hE : Env (⟨14, []⟩ : Frm) a [(0, x0), (5, .pointer (some x5_3))] := hE
  replace H : (maps_Keys_map_int_api_Sector_int_api_Sector_1_l1 x0 x5_3 self1 ()).wp w.heap Q := H
  unfold maps_Keys_map_int_api_Sector_int_api_Sector_1_l1 at H
  refine w_seq (fun K hK_7 => ?_)
  refine t_region ?_
  refine t_ex (fun x6_8 => x6_8) rfl rfl hR (M.unbind H) (fun Q H => nx_run hE rfl H) (fun x6_8 a w ea hR H => ?_)
  have hE := Env.put_some hE rfl ea; clear ea
  obtain ⟨x7_9, qx7_9, H⟩ := H
  refine t_val (v := .bool x7_9) rfl rfl hE rfl (ex_run hE rfl qx7_9) (fun a hE => ?_)
  refine t_nil ?_
  refine hK_7 _ _ ?_
  refine w_seq (fun K hK_10 => ?_)
  refine w_cond x7_9 hE rfl (fun hb => ?_) (fun hb => ?_)
  · replace H := M.ite_t hb H
    refine w_skip ?_
    refine hK_10 _ _ ?_
    refine w_block ?_
    refine w_seq (fun K hK_11 => ?_)
    refine t_region ?_
    obtain ⟨x8_12, qx8_12, H⟩ := H
    refine t_val (v := .tuple #[x8_12.1, x8_12.2]) rfl rfl hE rfl (r_entry hE rfl qx8_12) (fun a hE => ?_)
    obtain ⟨x9_13, qx9_13, H⟩ := H
    refine t_val (v := .int .i64 x9_13) rfl rfl hE rfl (r_extract hE rfl (congrArg some qx9_13)) (fun a hE => ?_)
    refine t_val (v := .int .i64 x9_13) rfl rfl hE rfl (r_assign hE rfl) (fun a hE => ?_)
    refine t_nil ?_
    refine hK_11 _ _ ?_
    refine w_seq (fun K hK_14 => ?_)
    refine t_region ?_
    refine t_val (v := x0) rfl rfl hE rfl (r_move hE rfl) (fun a hE => ?_)
    refine t_val (v := .int .i64 x9_13) rfl rfl hE rfl (r_move hE rfl) (fun a hE => ?_)
    refine t_callV hE hR rfl rfl (M.unbind H) (fun x12_15 a w ea hR H => ?_)
    have hE := Env.put_some hE rfl ea; clear ea
    refine t_val (v := .bool (!x12_15)) rfl rfl hE rfl (r_un hE rfl u_not) (fun a hE => ?_)
    refine t_nil ?_
    refine hK_14 _ _ ?_
    refine w_cond (!x12_15) hE rfl (fun hb => ?_) (fun hb => ?_)
    · replace H := M.ite_t hb H
      refine w_ret ?_
      exact hret _ _ _ () _ hE hR (res_run hE rfl RV.nil) rfl H
    · replace H := M.ite_f hb H
      refine w_skip ?_
      exact hY_6 () _ _ (hE.cut (.cons rfl (.cons rfl Subs.nil))) hR H
  · replace H := M.ite_f hb H
    refine w_exit ?_
    refine Xu.same ?_
    exact hret _ _ _ () _ hE hR (res_run hE rfl RV.nil) rfl H

/-- maps.Keys[map[int]ramble/api.Sector,int,ramble/api.Sector] -/
def maps_Keys_map_int_api_Sector_int_api_Sector (x0 : Option Nat) : M (Value) := do
  let x1_2 ← mkB ty_map_int_api_Sector #[.map x0]
  M.pure (Value.func (.func fn_maps_Keys_map_int_api_Sector_int_api_Sector_1) #[] #[.pointer (some x1_2)])
theorem S_maps_Keys_map_int_api_Sector_int_api_Sector (x0 : Option Nat) : Sound Go.Proofs.Try.prog 56 #[.map x0] (fun (r : Value) => r) (maps_Keys_map_int_api_Sector_int_api_Sector x0) := by
  refine sound_of [(0, .map x0)] Go.Proofs.Try.func56 rfl rfl (Nat.le_of_ble_eq_true rfl) (args_of ⟨rfl, trivial⟩) (fun w0 w Q R a hret hE hR H => ?_)
  unfold maps_Keys_map_int_api_Sector_int_api_Sector at H
  refine w_seq (fun K hK_1 => ?_)
  refine t_region ?_
  obtain ⟨x1_2, qx1_2, H⟩ := H
  refine t_valh (v := .pointer (some x1_2)) rfl rfl hE rfl hR (r_box hE rfl qx1_2) (fun a w hE hR hh => ?_)
  replace H := M.at hh H; clear hh
  refine t_val (v := Value.nilFunc) rfl rfl hE rfl (r_assign hE rfl) (fun a hE => ?_)
  refine t_nil ?_
  refine hK_1 _ _ ?_
  refine w_seq (fun K hK_3 => ?_)
  refine t_region ?_
  refine t_val (v := (Value.func (.func fn_maps_Keys_map_int_api_Sector_int_api_Sector_1) #[] #[.pointer (some x1_2)])) rfl rfl hE rfl (r_makeFunc hE rfl) (fun a hE => ?_)
  refine t_val (v := (Value.func (.func fn_maps_Keys_map_int_api_Sector_int_api_Sector_1) #[] #[.pointer (some x1_2)])) rfl rfl hE rfl (r_assign hE rfl) (fun a hE => ?_)
  refine t_nil ?_
  refine hK_3 _ _ ?_
  refine w_ret ?_
  exact hret _ _ _ (Value.func (.func fn_maps_Keys_map_int_api_Sector_int_api_Sector_1) #[] #[.pointer (some x1_2)]) _ hE hR (res_run hE rfl (RV.tmp rfl RV.nil)) rfl H

/-- (*ramble/disk.Disk).Dirty -/
def disk_Disk_Dirty (x0 : Option Addr) : M (Sl) := do
  let x4_4 ← disk_Disk_none x0
  M.ite x4_4 (do
    M.pure Sl.nil
    ) (do
    let x6_7 ← nilP x0
    let x8_8 ← ldMp ((x6_7).add 2)
    let x9_9 ← maps_Keys_map_int_api_Sector_int_api_Sector x8_8
    let x10_10 ← slices_Sorted_int x9_9
    M.pure x10_10
    )
theorem S_disk_Disk_Dirty (x0 : Option Addr) : Sound Go.Proofs.Try.prog 24 #[.pointer x0] (fun (r : Sl) => (r : Sl).v) (disk_Disk_Dirty x0) := by
  refine sound_of [(0, .pointer x0)] Go.Proofs.Try.func24 rfl rfl (Nat.le_of_ble_eq_true rfl) (args_of ⟨rfl, trivial⟩) (fun w0 w Q R a hret hE hR H => ?_)
  unfold disk_Disk_Dirty at H
  refine w_seq (fun K hK_1 => ?_)
  refine t_region ?_
  refine t_val (v := (Sl.nil : Sl).v) rfl rfl hE rfl (r_assign hE rfl) (fun a hE => ?_)
  refine t_nil ?_
  refine hK_1 _ _ ?_
  refine w_seq (fun K hK_2 => ?_)
  refine w_seq (fun K hK_3 => ?_)
  refine t_region ?_
  refine t_val (v := .pointer x0) rfl rfl hE rfl (r_move hE rfl) (fun a hE => ?_)
  refine t_call hE hR cl_disk_Disk_none rfl (S_disk_Disk_none x0) (M.unbind H) (fun x4_4 a w ea hR H => ?_)
  have hE := Env.put_some hE rfl ea; clear ea
  refine t_nil ?_
  refine hK_3 _ _ ?_
  refine w_cond x4_4 hE rfl (fun hb => ?_) (fun hb => ?_)
  · replace H := M.ite_t hb H
    refine w_seq (fun K hK_5 => ?_)
    refine t_region ?_
    refine t_val (v := (Sl.nil : Sl).v) rfl rfl hE rfl (r_assign hE rfl) (fun a hE => ?_)
    refine t_nil ?_
    refine hK_5 _ _ ?_
    refine w_ret ?_
    exact hret _ _ _ Sl.nil _ hE hR (res_run hE rfl (RV.tmp rfl RV.nil)) rfl H
  · replace H := M.ite_f hb H
    refine w_skip ?_
    refine hK_2 _ _ ?_
    refine w_seq (fun K hK_6 => ?_)
    refine t_region ?_
    refine t_val (v := .pointer x0) rfl rfl hE rfl (r_move hE rfl) (fun a hE => ?_)
    obtain ⟨x6_7, qx6_7, H⟩ := H
    refine t_val (v := .pointer (some x6_7)) rfl rfl hE rfl (r_nilCheck hE (hx_eq rfl (congrArg Value.pointer qx6_7))) (fun a hE => ?_)
    refine t_val (v := .pointer (some ((x6_7).add 2))) rfl rfl hE rfl (r_fieldAddr hE rfl fd66_2) (fun a hE => ?_)
    obtain ⟨x8_8, qx8_8, H⟩ := H
    refine t_val (v := .map x8_8) rfl rfl hE rfl (r_load hE rfl sc64 qx8_8) (fun a hE => ?_)
    refine t_call hE hR cl_maps_Keys_map_int_api_Sector_int_api_Sector rfl (S_maps_Keys_map_int_api_Sector_int_api_Sector x8_8) (M.unbind H) (fun x9_9 a w ea hR H => ?_)
    have hE := Env.put_some hE rfl ea; clear ea
    refine t_call hE hR cl_slices_Sorted_int rfl (S_slices_Sorted_int x9_9) (M.unbind H) (fun x10_10 a w ea hR H => ?_)
    have hE := Env.put_some hE rfl ea; clear ea
    refine t_val (v := (x10_10 : Sl).v) rfl rfl hE rfl (r_assign hE rfl) (fun a hE => ?_)
    refine t_nil ?_
    refine hK_6 _ _ ?_
    refine w_ret ?_
    exact hret _ _ _ x10_10 _ hE hR (res_run hE rfl (RV.tmp rfl RV.nil)) rfl H

/-- (*ramble/disk.Disk).decide -/
def disk_Disk_decide_j1 (self1 : (Sl × Int) → M (Unit)) (c12_21 : Int) (x6_15 : Sl) : M (Unit) := do
  self1 (x6_15, IntKind.wrap .i64 (c12_21 + 1))
def disk_Disk_decide_j2 (c0_34 : Option Addr) : M (Unit) := do
  let x55_35 ← nilP c0_34
  let x57_36 ← ldMp ((x55_35).add 2)
  let u_37 ← clM x57_36
  M.pure ()
theorem tb57_9 : tabAt Go.Proofs.Try.f57 9 [[], [0], [1], [2], [], [], [4, 5], [6], [3, 7, 0, 1, 2, 3, 4, 5, 6, 7], [8, 0, 1, 2, 3, 4, 5, 6, 7]] [[], [0], [1], [2], [], [], [4, 5], [6], [3, 7], [8]] [[], [0], [0, 1], [0, 1, 2], [], [], [4, 5], [4, 5, 6], [0, 1, 2, 3, 4, 5, 6, 7], [0, 1, 2, 3, 4, 5, 6, 7, 8]] = true := by kernel_rfl
def disk_Disk_decide_l1 (c0_7 : Option Addr) (c1_8 : Int) (c2_9 : Sl) (c10_10 : Sl) (c11_11 : Int) (self1 : (Sl × Int) → M (Unit)) : (Sl × Int) → M (Unit) := fun s => match s with
  | (x6_5, x12_6) => do
    M.ite (decide (x12_6 < c11_11)) (do
      let x15_23 ← ixL c10_10 x12_6 1
      let x16_24 ← ldI .i64 x15_23
      let x28_26 ← M.ite (decide ((c2_9.len : Int) > 0)) (do
        let x25_27 ← pRem x12_6 (c2_9.len : Int)
        let x26_28 ← ixL c2_9 x25_27 1
        let x27_29 ← ldB x26_28
        M.pure x27_29
        ) (do
        M.pure false
        )
      M.ite x28_26 (do
        let x31_31 ← disk_Disk_stay c0_7 x16_24
        let x34_32 ← bdL ty_int 1 #[.int .i64 x16_24]
        let x35_33 ← apL ty_int 1 8 (#[.int .i64 0] : Array Value) x6_5 x34_32
        disk_Disk_decide_j1 self1 x12_6 x35_33
        ) (do
        disk_Disk_decide_j1 self1 x12_6 x6_5
        )
      ) (do
      let x44_39 ← M.ite (decide (c1_8 ≥ 0)) (do
        M.pure (decide (c1_8 < (x6_5.len : Int)))
        ) (do
        M.pure false
        )
      M.ite x44_39 (do
        let x46_40 ← nilP c0_7
        let x51_41 ← ixL x6_5 c1_8 1
        let x48_42 ← ldL ((x46_40).add 1)
        let x52_43 ← ldI .i64 x51_41
        let x53_44 ← ixL x48_42 x52_43 1
        stV x53_44 (.bool true)
        disk_Disk_decide_j2 c0_7
        ) (do
        disk_Disk_decide_j2 c0_7
        )
      )
def disk_Disk_decide (x0 : Option Addr) (x1 : Int) (x2 : Sl) : M (Unit) := do
  let x10_4 ← disk_Disk_Dirty x0
  M.loop (disk_Disk_decide_l1 x0 x1 x2 x10_4 (x10_4.len : Int)) (Sl.nil, 0)
theorem S_disk_Disk_decide (x0 : Option Addr) (x1 : Int) (x2 : Sl) : Sound Go.Proofs.Try.prog 57 #[.pointer x0, .int .i64 x1, (x2 : Sl).v] (fun (r : Unit) => .tuple #[]) (disk_Disk_decide x0 x1 x2) := by
  refine sound_of [(0, .pointer x0), (1, .int .i64 x1), (2, (x2 : Sl).v)] Go.Proofs.Try.func57 rfl rfl (Nat.le_of_ble_eq_true rfl) (args_of ⟨rfl, rfl, rfl, trivial⟩) (fun w0 w Q R a hret hE hR H => ?_)
  unfold disk_Disk_decide at H
  refine w_seq (fun K hK_1 => ?_)
  refine t_region ?_
  refine t_val (v := (Sl.nil : Sl).v) rfl rfl hE rfl (r_assign hE rfl) (fun a hE => ?_)
  refine t_nil ?_
  refine hK_1 _ _ ?_
  refine w_seq (fun K hK_2 => ?_)
  refine w_seq (fun K hK_3 => ?_)
  refine t_region ?_
  refine t_val (v := .pointer x0) rfl rfl hE rfl (r_move hE rfl) (fun a hE => ?_)
  refine t_call hE hR cl_disk_Disk_Dirty rfl (S_disk_Disk_Dirty x0) (M.unbind H) (fun x10_4 a w ea hR H => ?_)
  have hE := Env.put_some hE rfl ea; clear ea
  refine t_val (v := .int .i64 (x10_4.len : Int)) rfl rfl hE rfl (r_len hE rfl 3 un54) (fun a hE => ?_)
  refine t_val (v := .int .i64 0) rfl rfl hE rfl (r_move hE rfl) (fun a hE => ?_)
  refine t_nil ?_
  refine hK_3 _ _ ?_
  refine w_block ?_
  refine l_loop (fun (s : Sl × Int) => (⟨58, []⟩ : Frm)) (fun (s : Sl × Int) => [(0, .pointer x0), (1, .int .i64 x1), (2, (x2 : Sl).v), (6, (s.1 : Sl).v), (10, (x10_4 : Sl).v), (11, .int .i64 (x10_4.len : Int)), (12, .int .i64 s.2)]) H (hE.cut (.cons rfl (.cons rfl (.cons rfl (.cons rfl (.cons rfl (.cons rfl (.cons rfl Subs.nil)))))))) hR (fun Y self1 hY_12 s a w hE hR H => ?_)
  rcases s with ⟨x6_5, x12_6⟩
  replace hE : Env (⟨58, []⟩ : Frm) a [(0, .pointer x0), (1, .int .i64 x1), (2, (x2 : Sl).v), (6, (x6_5 : Sl).v), (10, (x10_4 : Sl).v), (11, .int .i64 (x10_4.len : Int)), (12, .int .i64 x12_6)] := hE
  replace H : (disk_Disk_decide_l1 x0 x1 x2 x10_4 (x10_4.len : Int) self1 (x6_5, x12_6)).wp w.heap Q := H
  unfold disk_Disk_decide_l1 at H
  refine w_seq (fun K hK_13 => ?_)
  refine t_region ?_
  refine t_val (v := .bool (decide (x12_6 < (x10_4.len : Int)))) rfl rfl hE rfl (r_bin hE rfl rfl g_int b_lss) (fun a hE => ?_)
  refine t_nil ?_
  refine hK_13 _ _ ?_
  refine w_seq (fun K hK_14 => ?_)
  refine w_cond (decide (x12_6 < (x10_4.len : Int))) hE rfl (fun hb => ?_) (fun hb => ?_)
  · replace H := M.ite_t hb H
    refine w_skip ?_
    refine hK_14 _ _ ?_
    refine w_seq_join (fun a w => ∃ (x6_15 : Sl), Env (⟨58, []⟩ : Frm) a [(0, .pointer x0), (1, .int .i64 x1), (2, (x2 : Sl).v), (10, (x10_4 : Sl).v), (11, .int .i64 (x10_4.len : Int)), (12, .int .i64 x12_6), (6, (x6_15 : Sl).v)] ∧ Rest w0 w ∧ (disk_Disk_decide_j1 self1 x12_6 x6_15).wp w.heap Q) ?_ ?_
    · rintro a w ⟨x6_15, hE, hR, H⟩
      unfold disk_Disk_decide_j1 at H
      refine t_region ?_
      refine t_val (v := .int .i64 (IntKind.wrap .i64 (x12_6 + 1))) rfl rfl hE rfl (r_bin hE rfl rfl g_int b_add) (fun a hE => ?_)
      refine t_val (v := .int .i64 (IntKind.wrap .i64 (x12_6 + 1))) rfl rfl hE rfl (r_move hE rfl) (fun a hE => ?_)
      refine t_nil ?_
      exact hY_12 (x6_15, IntKind.wrap .i64 (x12_6 + 1)) _ _ (hE.cut (.cons rfl (.cons rfl (.cons rfl (.cons rfl (.cons rfl (.cons rfl (.cons rfl Subs.nil)))))))) hR H
    · skip
      refine w_block ?_
      refine w_seq (fun K hK_22 => ?_)
      refine t_region ?_
      refine t_val (v := .int .i64 x12_6) rfl rfl hE rfl (r_move hE rfl) (fun a hE => ?_)
      obtain ⟨x15_23, qx15_23, H⟩ := H
      refine t_val (v := .pointer (some x15_23)) rfl rfl hE rfl (r_indexAddrL hE rfl rfl un54 sz3 qx15_23) (fun a hE => ?_)
      obtain ⟨x16_24, qx16_24, H⟩ := H
      refine t_val (v := .int .i64 x16_24) rfl rfl hE rfl (r_load hE rfl sc3 qx16_24) (fun a hE => ?_)
      refine t_val (v := .int .i64 x12_6) rfl rfl hE rfl (r_assign hE rfl) (fun a hE => ?_)
      refine t_val (v := .int .i64 x16_24) rfl rfl hE rfl (r_assign hE rfl) (fun a hE => ?_)
      refine t_nil ?_
      refine hK_22 _ _ ?_
      refine w_seq (fun K hK_25 => ?_)
      refine t_region ?_
      refine t_val (v := (x2 : Sl).v) rfl rfl hE rfl (r_move hE rfl) (fun a hE => ?_)
      refine t_val (v := .int .i64 (x2.len : Int)) rfl rfl hE rfl (r_len hE rfl 4 un45) (fun a hE => ?_)
      refine t_val (v := .bool (decide ((x2.len : Int) > 0))) rfl rfl hE rfl (r_bin hE rfl rfl g_int b_gtr) (fun a hE => ?_)
      refine t_val (v := .bool (decide ((x2.len : Int) > 0))) rfl rfl hE rfl (r_move hE rfl) (fun a hE => ?_)
      refine t_grp (n := (⟨58, []⟩ : Frm)) (w0 := w0) 8 (fun x28_26 : Bool => [(0, .pointer x0), (1, .int .i64 x1), (2, (x2 : Sl).v), (10, (x10_4 : Sl).v), (11, .int .i64 (x10_4.len : Int)), (6, (x6_5 : Sl).v), (12, .int .i64 x12_6), (8, .int .i64 x16_24), (28, .bool x28_26)]) (M.unbind H) (fun Kr hKr H => ?_) ?_
      · rcases bool_em (decide ((x2.len : Int) > 0)) with hb | hb
        · replace H := M.ite_t hb H
          have hE := hE.reb 20 (decide ((x2.len : Int) > 0)) true hb rfl
          refine t_on rfl hE rfl rfl rfl ?_
          refine t_val (v := (x2 : Sl).v) rfl rfl hE rfl (r_move hE rfl) (fun a hE => ?_)
          refine t_on rfl hE rfl rfl rfl ?_
          refine t_val (v := .int .i64 x12_6) rfl rfl hE rfl (r_move hE rfl) (fun a hE => ?_)
          refine t_on rfl hE rfl rfl rfl ?_
          refine t_val (v := (x2 : Sl).v) rfl rfl hE rfl (r_move hE rfl) (fun a hE => ?_)
          refine t_on rfl hE rfl rfl rfl ?_
          refine t_val (v := .int .i64 (x2.len : Int)) rfl rfl hE rfl (r_len hE rfl 4 un45) (fun a hE => ?_)
          refine t_on rfl hE rfl rfl rfl ?_
          obtain ⟨x25_27, qx25_27, H⟩ := H
          refine t_val (v := .int .i64 x25_27) rfl rfl hE rfl (r_bin hE rfl rfl g_int (b_rem qx25_27)) (fun a hE => ?_)
          refine t_on rfl hE rfl rfl rfl ?_
          obtain ⟨x26_28, qx26_28, H⟩ := H
          refine t_val (v := .pointer (some x26_28)) rfl rfl hE rfl (r_indexAddrL hE rfl rfl un45 sz4 qx26_28) (fun a hE => ?_)
          refine t_on rfl hE rfl rfl rfl ?_
          obtain ⟨x27_29, qx27_29, H⟩ := H
          refine t_val (v := .bool x27_29) rfl rfl hE rfl (r_load hE rfl sc4 qx27_29) (fun a hE => ?_)
          refine t_val rfl rfl hE rfl (r_pick_t hE rfl rfl) (fun a hE => ?_)
          refine t_nil ?_
          exact hKr _ _ _ (hE.cut (.cons rfl (.cons rfl (.cons rfl (.cons rfl (.cons rfl (.cons rfl (.cons rfl (.cons rfl (.cons rfl Subs.nil)))))))))) hR H
        · replace H := M.ite_f hb H
          have hE := hE.reb 20 (decide ((x2.len : Int) > 0)) false hb rfl
          refine t_off rfl hE rfl rfl rfl (fun a ea => ?_)
          have hE := Env.put_some hE rfl ea; clear ea
          refine t_off rfl hE rfl rfl rfl (fun a ea => ?_)
          have hE := Env.put_some hE rfl ea; clear ea
          refine t_off rfl hE rfl rfl rfl (fun a ea => ?_)
          have hE := Env.put_some hE rfl ea; clear ea
          refine t_off rfl hE rfl rfl rfl (fun a ea => ?_)
          have hE := Env.put_some hE rfl ea; clear ea
          refine t_off rfl hE rfl rfl rfl (fun a ea => ?_)
          have hE := Env.put_some hE rfl ea; clear ea
          refine t_off rfl hE rfl rfl rfl (fun a ea => ?_)
          have hE := Env.put_some hE rfl ea; clear ea
          refine t_off rfl hE rfl rfl rfl (fun a ea => ?_)
          have hE := Env.put_some hE rfl ea; clear ea
          refine t_val rfl rfl hE rfl (r_pick_f hE rfl rfl) (fun a hE => ?_)
          refine t_nil ?_
          exact hKr _ _ _ (hE.cut (.cons rfl (.cons rfl (.cons rfl (.cons rfl (.cons rfl (.cons rfl (.cons rfl (.cons rfl (.cons rfl Subs.nil)))))))))) hR H
      · intro x28_26 a w hE hR H
        refine t_nil ?_
        refine hK_25 _ _ ?_
        refine w_cond x28_26 hE rfl (fun hb => ?_) (fun hb => ?_)
        · replace H := M.ite_t hb H
          refine w_seq (fun K hK_30 => ?_)
          refine t_region ?_
          refine t_val (v := .pointer x0) rfl rfl hE rfl (r_move hE rfl) (fun a hE => ?_)
          refine t_val (v := .int .i64 x16_24) rfl rfl hE rfl (r_move hE rfl) (fun a hE => ?_)
          refine t_call hE hR cl_disk_Disk_stay rfl (S_disk_Disk_stay x0 x16_24) (M.unbind H) (fun x31_31 a w ea hR H => ?_)
          have hE := Env.put_some hE rfl ea; clear ea
          refine t_nil ?_
          refine hK_30 _ _ ?_
          refine t_region ?_
          refine t_val (v := (x6_5 : Sl).v) rfl rfl hE rfl (r_move hE rfl) (fun a hE => ?_)
          refine t_val (v := .int .i64 x16_24) rfl rfl hE rfl (r_move hE rfl) (fun a hE => ?_)
          obtain ⟨x34_32, qx34_32, H⟩ := H
          refine t_valh (v := (x34_32 : Sl).v) rfl rfl hE rfl hR (r_buildL (cells := #[.int .i64 x16_24]) hE rfl un54 sz3 zr3 rfl rfl qx34_32) (fun a w hE hR hh => ?_)
          replace H := M.at hh H; clear hh
          refine t_ex (fun x35_33 => (x35_33 : Sl).v) rfl rfl hR (M.unbind H) (fun Q H => ap_run hE rfl rfl ap54 H) (fun x35_33 a w ea hR H => ?_)
          have hE := Env.put_some hE rfl ea; clear ea
          refine t_val (v := (x35_33 : Sl).v) rfl rfl hE rfl (r_assign hE rfl) (fun a hE => ?_)
          refine t_nil ?_
          exact ⟨x35_33, hE.cut (.cons rfl (.cons rfl (.cons rfl (.cons rfl (.cons rfl (.cons rfl (.cons rfl Subs.nil))))))), hR, H⟩
        · replace H := M.ite_f hb H
          refine w_skip ?_
          exact ⟨x6_5, hE.cut (.cons rfl (.cons rfl (.cons rfl (.cons rfl (.cons rfl (.cons rfl (.cons rfl Subs.nil))))))), hR, H⟩
  · replace H := M.ite_f hb H
    refine w_exit ?_
    refine Xu.same ?_
    refine hK_2 _ _ ?_
    refine w_seq_join (fun a w => Env (⟨58, []⟩ : Frm) a [(0, .pointer x0)] ∧ Rest w0 w ∧ (disk_Disk_decide_j2 x0).wp w.heap Q) ?_ ?_
    · rintro a w ⟨hE, hR, H⟩
      unfold disk_Disk_decide_j2 at H
      refine t_region ?_
      refine t_val (v := .pointer x0) rfl rfl hE rfl (r_move hE rfl) (fun a hE => ?_)
      obtain ⟨x55_35, qx55_35, H⟩ := H
      refine t_val (v := .pointer (some x55_35)) rfl rfl hE rfl (r_nilCheck hE (hx_eq rfl (congrArg Value.pointer qx55_35))) (fun a hE => ?_)
      refine t_val (v := .pointer (some ((x55_35).add 2))) rfl rfl hE rfl (r_fieldAddr hE rfl fd66_2) (fun a hE => ?_)
      obtain ⟨x57_36, qx57_36, H⟩ := H
      refine t_val (v := .map x57_36) rfl rfl hE rfl (r_load hE rfl sc64 qx57_36) (fun a hE => ?_)
      obtain ⟨u_37, qu_37, H⟩ := H
      refine t_valnh (v := .tuple #[]) rfl rfl hE hR (r_clearM hE rfl un64 qu_37) (fun a w hE hR hh => ?_)
      replace H := M.at hh H; clear hh
      refine t_nil ?_
      exact hret _ _ _ () _ hE hR (res_run hE rfl RV.nil) rfl H
    · skip
      refine w_seq (fun K hK_38 => ?_)
      refine t_region ?_
      refine t_val (v := .int .i64 x1) rfl rfl hE rfl (r_move hE rfl) (fun a hE => ?_)
      refine t_val (v := .bool (decide (x1 ≥ 0))) rfl rfl hE rfl (r_bin hE rfl rfl g_int b_geq) (fun a hE => ?_)
      refine t_val (v := .bool (decide (x1 ≥ 0))) rfl rfl hE rfl (r_move hE rfl) (fun a hE => ?_)
      refine t_grp (n := (⟨58, []⟩ : Frm)) (w0 := w0) 5 (fun x44_39 : Bool => [(0, .pointer x0), (1, .int .i64 x1), (6, (x6_5 : Sl).v), (44, .bool x44_39)]) (M.unbind H) (fun Kr hKr H => ?_) ?_
      · rcases bool_em (decide (x1 ≥ 0)) with hb | hb
        · replace H := M.ite_t hb H
          have hE := hE.reb 39 (decide (x1 ≥ 0)) true hb rfl
          refine t_on rfl hE rfl rfl rfl ?_
          refine t_val (v := .int .i64 x1) rfl rfl hE rfl (r_move hE rfl) (fun a hE => ?_)
          refine t_on rfl hE rfl rfl rfl ?_
          refine t_val (v := (x6_5 : Sl).v) rfl rfl hE rfl (r_move hE rfl) (fun a hE => ?_)
          refine t_on rfl hE rfl rfl rfl ?_
          refine t_val (v := .int .i64 (x6_5.len : Int)) rfl rfl hE rfl (r_len hE rfl 3 un54) (fun a hE => ?_)
          refine t_on rfl hE rfl rfl rfl ?_
          refine t_val (v := .bool (decide (x1 < (x6_5.len : Int)))) rfl rfl hE rfl (r_bin hE rfl rfl g_int b_lss) (fun a hE => ?_)
          refine t_val rfl rfl hE rfl (r_pick_t hE rfl rfl) (fun a hE => ?_)
          refine t_nil ?_
          exact hKr _ _ _ (hE.cut (.cons rfl (.cons rfl (.cons rfl (.cons rfl Subs.nil))))) hR H
        · replace H := M.ite_f hb H
          have hE := hE.reb 39 (decide (x1 ≥ 0)) false hb rfl
          refine t_off rfl hE rfl rfl rfl (fun a ea => ?_)
          have hE := Env.put_some hE rfl ea; clear ea
          refine t_off rfl hE rfl rfl rfl (fun a ea => ?_)
          have hE := Env.put_some hE rfl ea; clear ea
          refine t_off rfl hE rfl rfl rfl (fun a ea => ?_)
          have hE := Env.put_some hE rfl ea; clear ea
          refine t_off rfl hE rfl rfl rfl (fun a ea => ?_)
          have hE := Env.put_some hE rfl ea; clear ea
          refine t_val rfl rfl hE rfl (r_pick_f hE rfl rfl) (fun a hE => ?_)
          refine t_nil ?_
          exact hKr _ _ _ (hE.cut (.cons rfl (.cons rfl (.cons rfl (.cons rfl Subs.nil))))) hR H
      · intro x44_39 a w hE hR H
        refine t_nil ?_
        refine hK_38 _ _ ?_
        refine w_cond x44_39 hE rfl (fun hb => ?_) (fun hb => ?_)
        · replace H := M.ite_t hb H
          obtain ⟨x46_40, qx46_40, H⟩ := H
          obtain ⟨x51_41, qx51_41, H⟩ := H
          obtain ⟨x48_42, qx48_42, H⟩ := H
          obtain ⟨x52_43, qx52_43, H⟩ := H
          obtain ⟨x53_44, qx53_44, H⟩ := H
          have hT := tab_of tb57_9 rfl rfl
          refine d_start (fun w : World => (fun h : Heap => (hcell h ((x46_40).add 1) = some ((x48_42 : Sl).v)) ∧ (hcell h x51_41 = some (.int .i64 x52_43))) w.heap) [8, 9] #[false, false, false, false, false, false, false, false, false, false] mo hR rfl rfl (fun w' e => by rw [e]; exact ⟨qx48_42, qx52_43⟩) (fun w hh hR hs => ?_)
          replace H := M.at hh H; clear hh
          refine d_pureg (i := 0) (v := .pointer x0) #[true, false, false, false, false, false, false, false, false, false] rfl rfl hT (by kernel_rfl) hE rfl (wanted_none rfl) (fun w => r_move hE rfl) (fun a hE => ?_)
          refine d_pureg (i := 1) (v := .pointer (some x46_40)) #[true, true, false, false, false, false, false, false, false, false] rfl rfl hT (by kernel_rfl) hE rfl (wanted_none rfl) (fun w => r_nilCheck hE (hx_eq rfl (congrArg Value.pointer qx46_40))) (fun a hE => ?_)
          refine d_pureg (i := 2) (v := .pointer (some ((x46_40).add 1))) #[true, true, true, false, false, false, false, false, false, false] rfl rfl hT (by kernel_rfl) hE rfl (wanted_none rfl) (fun w => r_fieldAddr hE rfl fd66_1) (fun a hE => ?_)
          refine d_pureg (i := 4) (v := (x6_5 : Sl).v) #[true, true, true, false, true, false, false, false, false, false] rfl rfl hT (by kernel_rfl) hE rfl (wanted_none rfl) (fun w => r_move hE rfl) (fun a hE => ?_)
          refine d_pureg (i := 5) (v := .int .i64 x1) #[true, true, true, false, true, true, false, false, false, false] rfl rfl hT (by kernel_rfl) hE rfl (wanted_none rfl) (fun w => r_move hE rfl) (fun a hE => ?_)
          refine d_pureg (i := 6) (v := .pointer (some x51_41)) #[true, true, true, false, true, true, true, false, false, false] rfl rfl hT (by kernel_rfl) hE rfl (wanted_none rfl) (fun w => r_indexAddrL hE rfl rfl un54 sz3 qx51_41) (fun a hE => ?_)
          refine d_read (i := 3) (v := (x48_42 : Sl).v) #[true, true, true, true, true, true, true, false, false, false] rfl rfl hT (by kernel_rfl) hE rfl (wanted_none rfl) hs (fun w s => r_load hE rfl sc45 s.1) (fun a hE => ?_)
          refine d_read (i := 7) (v := .int .i64 x52_43) #[true, true, true, true, true, true, true, true, false, false] rfl rfl hT (by kernel_rfl) hE rfl (wanted_none rfl) hs (fun w s => r_load hE rfl sc3 s.2) (fun a hE => ?_)
          refine d_pureg (i := 8) (v := .pointer (some x53_44)) #[true, true, true, true, true, true, true, true, true, false] rfl rfl hT (by kernel_rfl) hE rfl (wanted_none rfl) (fun w => r_indexAddrL hE rfl rfl un45 sz4 qx53_44) (fun a hE => ?_)
          obtain ⟨u_45, qu_45, H⟩ := H
          refine d_stlh (i := 9) #[true, true, true, true, true, true, true, true, true, true] rfl rfl hT (by kernel_rfl) rfl hE hR (wanted_none rfl) (r_store hE rfl rfl sz4 qu_45)  (fun a w hE hR hh => ?_)
          replace H := M.at hh H; clear hh
          refine d_done hT (by kernel_rfl) ?_
          exact ⟨hE.cut (.cons rfl Subs.nil), hR, H⟩
        · replace H := M.ite_f hb H
          refine w_skip ?_
          exact ⟨hE.cut (.cons rfl Subs.nil), hR, H⟩

/-- (*ramble/disk.Disk).Crash -/
def disk_Disk_Crash (x0 : Option Addr) (x1 : Int) (x2 : Sl) : M (Int) := do
  let x9_4 ← disk_Disk_can x0
  M.ite (x9_4 != 0) (do
    M.pure x9_4
    ) (do
    let x15_8 ← nilP x0
    stV ((x15_8).add 3) (.bool true)
    let x17_10 ← nilP x0
    stV ((x17_10).add 4) (.int .i64 0)
    let x22_13 ← disk_Disk_decide x0 x1 x2
    M.pure 0
    )
theorem S_disk_Disk_Crash (x0 : Option Addr) (x1 : Int) (x2 : Sl) : Sound Go.Proofs.Try.prog 25 #[.pointer x0, .int .i64 x1, (x2 : Sl).v] (fun (r : Int) => .int .i64 r) (disk_Disk_Crash x0 x1 x2) := by
  refine sound_of [(0, .pointer x0), (1, .int .i64 x1), (2, (x2 : Sl).v)] Go.Proofs.Try.func25 rfl rfl (Nat.le_of_ble_eq_true rfl) (args_of ⟨rfl, rfl, rfl, trivial⟩) (fun w0 w Q R a hret hE hR H => ?_)
  unfold disk_Disk_Crash at H
  refine w_seq (fun K hK_1 => ?_)
  refine t_region ?_
  refine t_val (v := .int .i64 0) rfl rfl hE rfl (r_assign hE rfl) (fun a hE => ?_)
  refine t_nil ?_
  refine hK_1 _ _ ?_
  refine w_seq (fun K hK_2 => ?_)
  refine w_seq (fun K hK_3 => ?_)
  refine t_region ?_
  refine t_val (v := .pointer x0) rfl rfl hE rfl (r_move hE rfl) (fun a hE => ?_)
  refine t_call hE hR cl_disk_Disk_can rfl (S_disk_Disk_can x0) (M.unbind H) (fun x9_4 a w ea hR H => ?_)
  have hE := Env.put_some hE rfl ea; clear ea
  refine t_val (v := .int .i64 x9_4) rfl rfl hE rfl (r_assign hE rfl) (fun a hE => ?_)
  refine t_nil ?_
  refine hK_3 _ _ ?_
  refine w_seq (fun K hK_5 => ?_)
  refine t_region ?_
  refine t_val (v := .int .i64 x9_4) rfl rfl hE rfl (r_move hE rfl) (fun a hE => ?_)
  refine t_val (v := .bool (x9_4 != 0)) rfl rfl hE rfl (r_bin hE rfl rfl g_int b_neq) (fun a hE => ?_)
  refine t_nil ?_
  refine hK_5 _ _ ?_
  refine w_cond (x9_4 != 0) hE rfl (fun hb => ?_) (fun hb => ?_)
  · replace H := M.ite_t hb H
    refine w_seq (fun K hK_6 => ?_)
    refine t_region ?_
    refine t_val (v := .int .i64 x9_4) rfl rfl hE rfl (r_move hE rfl) (fun a hE => ?_)
    refine t_val (v := .int .i64 x9_4) rfl rfl hE rfl (r_assign hE rfl) (fun a hE => ?_)
    refine t_nil ?_
    refine hK_6 _ _ ?_
    refine w_ret ?_
    exact hret _ _ _ x9_4 _ hE hR (res_run hE rfl (RV.tmp rfl RV.nil)) rfl H
  · replace H := M.ite_f hb H
    refine w_skip ?_
    refine hK_2 _ _ ?_
    refine w_seq (fun K hK_7 => ?_)
    refine t_region ?_
    refine t_val (v := .pointer x0) rfl rfl hE rfl (r_move hE rfl) (fun a hE => ?_)
    refine t_val (v := .pointer x0) rfl rfl hE rfl (r_move hE rfl) (fun a hE => ?_)
    obtain ⟨x15_8, qx15_8, H⟩ := H
    refine t_val (v := .pointer (some x15_8)) rfl rfl hE rfl (r_nilCheck hE (hx_eq rfl (congrArg Value.pointer qx15_8))) (fun a hE => ?_)
    refine t_val (v := .pointer (some ((x15_8).add 3))) rfl rfl hE rfl (r_fieldAddr hE rfl fd66_3) (fun a hE => ?_)
    obtain ⟨u_9, qu_9, H⟩ := H
    refine t_sth rfl rfl hE hR (r_store hE rfl rfl sz4 qu_9) (fun a w hE hR hh => ?_)
    replace H := M.at hh H; clear hh
    obtain ⟨x17_10, qx17_10, H⟩ := H
    refine t_val (v := .pointer (some x17_10)) rfl rfl hE rfl (r_nilCheck hE (hx_eq rfl (congrArg Value.pointer qx17_10))) (fun a hE => ?_)
    refine t_val (v := .pointer (some ((x17_10).add 4))) rfl rfl hE rfl (r_fieldAddr hE rfl fd66_4) (fun a hE => ?_)
    obtain ⟨u_11, qu_11, H⟩ := H
    refine t_sth rfl rfl hE hR (r_store hE rfl rfl sz3 qu_11) (fun a w hE hR hh => ?_)
    replace H := M.at hh H; clear hh
    refine t_nil ?_
    refine hK_7 _ _ ?_
    refine w_seq (fun K hK_12 => ?_)
    refine t_region ?_
    refine t_val (v := .pointer x0) rfl rfl hE rfl (r_move hE rfl) (fun a hE => ?_)
    refine t_val (v := .int .i64 x1) rfl rfl hE rfl (r_move hE rfl) (fun a hE => ?_)
    refine t_val (v := (x2 : Sl).v) rfl rfl hE rfl (r_move hE rfl) (fun a hE => ?_)
    refine t_call hE hR cl_disk_Disk_decide rfl (S_disk_Disk_decide x0 x1 x2) (M.unbind H) (fun x22_13 a w ea hR H => ?_)
    have hE := Env.put_some hE rfl ea; clear ea
    refine t_nil ?_
    refine hK_12 _ _ ?_
    refine w_seq (fun K hK_14 => ?_)
    refine t_region ?_
    refine t_val (v := .int .i64 0) rfl rfl hE rfl (r_assign hE rfl) (fun a hE => ?_)
    refine t_nil ?_
    refine hK_14 _ _ ?_
    refine w_ret ?_
    exact hret _ _ _ 0 _ hE hR (res_run hE rfl (RV.tmp rfl RV.nil)) rfl H

/-- (*ramble/disk.Disk).Start -/
def disk_Disk_Start (x0 : Option Addr) (x1 : Int) (x2 : Sl) : M (Int) := do
  let x9_4 ← disk_Disk_none x0
  M.ite x9_4 (do
    M.pure 2
    ) (do
    let x12_7 ← nilP x0
    let x14_8 ← ldB ((x12_7).add 3)
    M.ite (!x14_8) (do
      M.pure 1
      ) (do
      let x17_11 ← nilP x0
      stV ((x17_11).add 3) (.bool false)
      let x22_14 ← disk_Disk_decide x0 x1 x2
      M.pure 0
      )
    )
theorem S_disk_Disk_Start (x0 : Option Addr) (x1 : Int) (x2 : Sl) : Sound Go.Proofs.Try.prog 26 #[.pointer x0, .int .i64 x1, (x2 : Sl).v] (fun (r : Int) => .int .i64 r) (disk_Disk_Start x0 x1 x2) := by
  refine sound_of [(0, .pointer x0), (1, .int .i64 x1), (2, (x2 : Sl).v)] Go.Proofs.Try.func26 rfl rfl (Nat.le_of_ble_eq_true rfl) (args_of ⟨rfl, rfl, rfl, trivial⟩) (fun w0 w Q R a hret hE hR H => ?_)
  unfold disk_Disk_Start at H
  refine w_seq (fun K hK_1 => ?_)
  refine t_region ?_
  refine t_val (v := .int .i64 0) rfl rfl hE rfl (r_assign hE rfl) (fun a hE => ?_)
  refine t_nil ?_
  refine hK_1 _ _ ?_
  refine w_seq (fun K hK_2 => ?_)
  refine w_block ?_
  refine w_seq (fun K hK_3 => ?_)
  refine t_region ?_
  refine t_val (v := .pointer x0) rfl rfl hE rfl (r_move hE rfl) (fun a hE => ?_)
  refine t_call hE hR cl_disk_Disk_none rfl (S_disk_Disk_none x0) (M.unbind H) (fun x9_4 a w ea hR H => ?_)
  have hE := Env.put_some hE rfl ea; clear ea
  refine t_val (v := .bool x9_4) rfl rfl hE rfl (r_assign hE rfl) (fun a hE => ?_)
  refine t_nil ?_
  refine hK_3 _ _ ?_
  refine w_cond x9_4 hE rfl (fun hb => ?_) (fun hb => ?_)
  · replace H := M.ite_t hb H
    refine w_seq (fun K hK_5 => ?_)
    refine t_region ?_
    refine t_val (v := .int .i64 2) rfl rfl hE rfl (r_assign hE rfl) (fun a hE => ?_)
    refine t_nil ?_
    refine hK_5 _ _ ?_
    refine w_ret ?_
    exact hret _ _ _ 2 _ hE hR (res_run hE rfl (RV.tmp rfl RV.nil)) rfl H
  · replace H := M.ite_f hb H
    refine w_seq (fun K hK_6 => ?_)
    refine t_region ?_
    refine t_val (v := .pointer x0) rfl rfl hE rfl (r_move hE rfl) (fun a hE => ?_)
    obtain ⟨x12_7, qx12_7, H⟩ := H
    refine t_val (v := .pointer (some x12_7)) rfl rfl hE rfl (r_nilCheck hE (hx_eq rfl (congrArg Value.pointer qx12_7))) (fun a hE => ?_)
    refine t_val (v := .pointer (some ((x12_7).add 3))) rfl rfl hE rfl (r_fieldAddr hE rfl fd66_3) (fun a hE => ?_)
    obtain ⟨x14_8, qx14_8, H⟩ := H
    refine t_val (v := .bool x14_8) rfl rfl hE rfl (r_load hE rfl sc4 qx14_8) (fun a hE => ?_)
    refine t_val (v := .bool (!x14_8)) rfl rfl hE rfl (r_un hE rfl u_not) (fun a hE => ?_)
    refine t_val (v := .bool (!x14_8)) rfl rfl hE rfl (r_assign hE rfl) (fun a hE => ?_)
    refine t_nil ?_
    refine hK_6 _ _ ?_
    refine w_cond (!x14_8) hE rfl (fun hb => ?_) (fun hb => ?_)
    · replace H := M.ite_t hb H
      refine w_seq (fun K hK_9 => ?_)
      refine t_region ?_
      refine t_val (v := .int .i64 1) rfl rfl hE rfl (r_assign hE rfl) (fun a hE => ?_)
      refine t_nil ?_
      refine hK_9 _ _ ?_
      refine w_ret ?_
      exact hret _ _ _ 1 _ hE hR (res_run hE rfl (RV.tmp rfl RV.nil)) rfl H
    · replace H := M.ite_f hb H
      refine w_skip ?_
      refine hK_2 _ _ ?_
      refine w_seq (fun K hK_10 => ?_)
      refine t_region ?_
      refine t_val (v := .pointer x0) rfl rfl hE rfl (r_move hE rfl) (fun a hE => ?_)
      obtain ⟨x17_11, qx17_11, H⟩ := H
      refine t_val (v := .pointer (some x17_11)) rfl rfl hE rfl (r_nilCheck hE (hx_eq rfl (congrArg Value.pointer qx17_11))) (fun a hE => ?_)
      refine t_val (v := .pointer (some ((x17_11).add 3))) rfl rfl hE rfl (r_fieldAddr hE rfl fd66_3) (fun a hE => ?_)
      obtain ⟨u_12, qu_12, H⟩ := H
      refine t_sth rfl rfl hE hR (r_store hE rfl rfl sz4 qu_12) (fun a w hE hR hh => ?_)
      replace H := M.at hh H; clear hh
      refine t_nil ?_
      refine hK_10 _ _ ?_
      refine w_seq (fun K hK_13 => ?_)
      refine t_region ?_
      refine t_val (v := .pointer x0) rfl rfl hE rfl (r_move hE rfl) (fun a hE => ?_)
      refine t_val (v := .int .i64 x1) rfl rfl hE rfl (r_move hE rfl) (fun a hE => ?_)
      refine t_val (v := (x2 : Sl).v) rfl rfl hE rfl (r_move hE rfl) (fun a hE => ?_)
      refine t_call hE hR cl_disk_Disk_decide rfl (S_disk_Disk_decide x0 x1 x2) (M.unbind H) (fun x22_14 a w ea hR H => ?_)
      have hE := Env.put_some hE rfl ea; clear ea
      refine t_nil ?_
      refine hK_13 _ _ ?_
      refine w_seq (fun K hK_15 => ?_)
      refine t_region ?_
      refine t_val (v := .int .i64 0) rfl rfl hE rfl (r_assign hE rfl) (fun a hE => ?_)
      refine t_nil ?_
      refine hK_15 _ _ ?_
      refine w_ret ?_
      exact hret _ _ _ 0 _ hE hR (res_run hE rfl (RV.tmp rfl RV.nil)) rfl H

end Gx
namespace Gx
open Go
set_option linter.unusedVariables false
set_option maxRecDepth 100000
/-- (*ramble/disk.Disk).SetFuse -/
def disk_Disk_SetFuse (x0 : Option Addr) (x1 : Int) : M (Int) := do
  let x7_4 ← disk_Disk_can x0
  M.ite (x7_4 != 0) (do
    M.pure x7_4
    ) (do
    M.ite (decide (x1 < 0)) (do
      M.pure 1
      ) (do
      let x15_11 ← nilP x0
      stV ((x15_11).add 4) (.int .i64 x1)
      M.pure 0
      )
    )
theorem S_disk_Disk_SetFuse (x0 : Option Addr) (x1 : Int) : Sound Go.Proofs.Try.prog 29 #[.pointer x0, .int .i64 x1] (fun (r : Int) => .int .i64 r) (disk_Disk_SetFuse x0 x1) := by
  refine sound_of [(0, .pointer x0), (1, .int .i64 x1)] Go.Proofs.Try.func29 rfl rfl (Nat.le_of_ble_eq_true rfl) (args_of ⟨rfl, rfl, trivial⟩) (fun w0 w Q R a hret hE hR H => ?_)
  unfold disk_Disk_SetFuse at H
  refine w_seq (fun K hK_1 => ?_)
  refine t_region ?_
  refine t_val (v := .int .i64 0) rfl rfl hE rfl (r_assign hE rfl) (fun a hE => ?_)
  refine t_nil ?_
  refine hK_1 _ _ ?_
  refine w_seq (fun K hK_2 => ?_)
  refine w_seq (fun K hK_3 => ?_)
  refine t_region ?_
  refine t_val (v := .pointer x0) rfl rfl hE rfl (r_move hE rfl) (fun a hE => ?_)
  refine t_call hE hR cl_disk_Disk_can rfl (S_disk_Disk_can x0) (M.unbind H) (fun x7_4 a w ea hR H => ?_)
  have hE := Env.put_some hE rfl ea; clear ea
  refine t_val (v := .int .i64 x7_4) rfl rfl hE rfl (r_assign hE rfl) (fun a hE => ?_)
  refine t_nil ?_
  refine hK_3 _ _ ?_
  refine w_seq (fun K hK_5 => ?_)
  refine t_region ?_
  refine t_val (v := .int .i64 x7_4) rfl rfl hE rfl (r_move hE rfl) (fun a hE => ?_)
  refine t_val (v := .bool (x7_4 != 0)) rfl rfl hE rfl (r_bin hE rfl rfl g_int b_neq) (fun a hE => ?_)
  refine t_nil ?_
  refine hK_5 _ _ ?_
  refine w_cond (x7_4 != 0) hE rfl (fun hb => ?_) (fun hb => ?_)
  · replace H := M.ite_t hb H
    refine w_seq (fun K hK_6 => ?_)
    refine t_region ?_
    refine t_val (v := .int .i64 x7_4) rfl rfl hE rfl (r_move hE rfl) (fun a hE => ?_)
    refine t_val (v := .int .i64 x7_4) rfl rfl hE rfl (r_assign hE rfl) (fun a hE => ?_)
    refine t_nil ?_
    refine hK_6 _ _ ?_
    refine w_ret ?_
    exact hret _ _ _ x7_4 _ hE hR (res_run hE rfl (RV.tmp rfl RV.nil)) rfl H
  · replace H := M.ite_f hb H
    refine w_skip ?_
    refine hK_2 _ _ ?_
    refine w_seq (fun K hK_7 => ?_)
    refine w_seq (fun K hK_8 => ?_)
    refine t_region ?_
    refine t_val (v := .int .i64 x1) rfl rfl hE rfl (r_move hE rfl) (fun a hE => ?_)
    refine t_val (v := .bool (decide (x1 < 0))) rfl rfl hE rfl (r_bin hE rfl rfl g_int b_lss) (fun a hE => ?_)
    refine t_nil ?_
    refine hK_8 _ _ ?_
    refine w_cond (decide (x1 < 0)) hE rfl (fun hb => ?_) (fun hb => ?_)
    · replace H := M.ite_t hb H
      refine w_seq (fun K hK_9 => ?_)
      refine t_region ?_
      refine t_val (v := .int .i64 1) rfl rfl hE rfl (r_assign hE rfl) (fun a hE => ?_)
      refine t_nil ?_
      refine hK_9 _ _ ?_
      refine w_ret ?_
      exact hret _ _ _ 1 _ hE hR (res_run hE rfl (RV.tmp rfl RV.nil)) rfl H
    · replace H := M.ite_f hb H
      refine w_skip ?_
      refine hK_7 _ _ ?_
      refine w_seq (fun K hK_10 => ?_)
      refine t_region ?_
      refine t_val (v := .pointer x0) rfl rfl hE rfl (r_move hE rfl) (fun a hE => ?_)
      refine t_val (v := .int .i64 x1) rfl rfl hE rfl (r_move hE rfl) (fun a hE => ?_)
      obtain ⟨x15_11, qx15_11, H⟩ := H
      refine t_val (v := .pointer (some x15_11)) rfl rfl hE rfl (r_nilCheck hE (hx_eq rfl (congrArg Value.pointer qx15_11))) (fun a hE => ?_)
      refine t_val (v := .pointer (some ((x15_11).add 4))) rfl rfl hE rfl (r_fieldAddr hE rfl fd66_4) (fun a hE => ?_)
      obtain ⟨u_12, qu_12, H⟩ := H
      refine t_sth rfl rfl hE hR (r_store hE rfl rfl sz3 qu_12) (fun a w hE hR hh => ?_)
      replace H := M.at hh H; clear hh
      refine t_nil ?_
      refine hK_10 _ _ ?_
      refine w_seq (fun K hK_13 => ?_)
      refine t_region ?_
      refine t_val (v := .int .i64 0) rfl rfl hE rfl (r_assign hE rfl) (fun a hE => ?_)
      refine t_nil ?_
      refine hK_13 _ _ ?_
      refine w_ret ?_
      exact hret _ _ _ 0 _ hE hR (res_run hE rfl (RV.tmp rfl RV.nil)) rfl H

/-- slices.Clone[[][][]byte,[][]byte] -/
def slices_Clone_slslslbyte_slslbyte (x0 : Sl) : M (Sl) := do
  M.ite ((x0).base.isNone) (do
    M.pure Sl.nil
    ) (do
    let x5_6 ← bdL ty_sl_sl_uint8 0 #[]
    let x7_7 ← apL ty_sl_sl_uint8 1 24 (#[.slice none 0 0] : Array Value) x5_6 x0
    M.pure x7_7
    )
theorem S_slices_Clone_slslslbyte_slslbyte (x0 : Sl) : Sound Go.Proofs.Try.prog 35 #[(x0 : Sl).v] (fun (r : Sl) => (r : Sl).v) (slices_Clone_slslslbyte_slslbyte x0) := by
  refine sound_of [(0, (x0 : Sl).v)] Go.Proofs.Try.func35 rfl rfl (Nat.le_of_ble_eq_true rfl) (args_of ⟨rfl, trivial⟩) (fun w0 w Q R a hret hE hR H => ?_)
  unfold slices_Clone_slslslbyte_slslbyte at H
  refine w_seq (fun K hK_1 => ?_)
  refine t_region ?_
  refine t_val (v := (Sl.nil : Sl).v) rfl rfl hE rfl (r_assign hE rfl) (fun a hE => ?_)
  refine t_nil ?_
  refine hK_1 _ _ ?_
  refine w_seq (fun K hK_2 => ?_)
  refine w_seq (fun K hK_3 => ?_)
  refine t_region ?_
  refine t_val (v := (x0 : Sl).v) rfl rfl hE rfl (r_move hE rfl) (fun a hE => ?_)
  refine t_val (v := .bool ((x0).base.isNone)) rfl rfl hE rfl (r_bin hE rfl rfl (g_sl (v := Sl.nil)) (b_eqlL un22)) (fun a hE => ?_)
  refine t_nil ?_
  refine hK_3 _ _ ?_
  refine w_cond ((x0).base.isNone) hE rfl (fun hb => ?_) (fun hb => ?_)
  · replace H := M.ite_t hb H
    refine w_seq (fun K hK_4 => ?_)
    refine t_region ?_
    refine t_val (v := (Sl.nil : Sl).v) rfl rfl hE rfl (r_assign hE rfl) (fun a hE => ?_)
    refine t_nil ?_
    refine hK_4 _ _ ?_
    refine w_ret ?_
    exact hret _ _ _ Sl.nil _ hE hR (res_run hE rfl (RV.tmp rfl RV.nil)) rfl H
  · replace H := M.ite_f hb H
    refine w_skip ?_
    refine hK_2 _ _ ?_
    refine w_seq (fun K hK_5 => ?_)
    refine t_region ?_
    obtain ⟨x5_6, qx5_6, H⟩ := H
    refine t_valh (v := (x5_6 : Sl).v) rfl rfl hE rfl hR (r_buildL (cells := #[]) hE rfl un22 sz32 zr32 rfl rfl qx5_6) (fun a w hE hR hh => ?_)
    replace H := M.at hh H; clear hh
    refine t_val (v := (x0 : Sl).v) rfl rfl hE rfl (r_move hE rfl) (fun a hE => ?_)
    refine t_ex (fun x7_7 => (x7_7 : Sl).v) rfl rfl hR (M.unbind H) (fun Q H => ap_run hE rfl rfl ap22 H) (fun x7_7 a w ea hR H => ?_)
    have hE := Env.put_some hE rfl ea; clear ea
    refine t_val (v := (x7_7 : Sl).v) rfl rfl hE rfl (r_assign hE rfl) (fun a hE => ?_)
    refine t_nil ?_
    refine hK_5 _ _ ?_
    refine w_ret ?_
    exact hret _ _ _ x7_7 _ hE hR (res_run hE rfl (RV.tmp rfl RV.nil)) rfl H

/-- slices.IndexFunc[[][][][]byte,[][][]byte] -/
def slices_IndexFunc_slslslslbyte_slslslbyte_l1 (c0_5 : Sl) (c1_6 : Value) (c7_7 : Int) (self1 : (Int) → M (Int)) : (Int) → M (Int) := fun s => match s with
  | x8_4 => do
    M.ite (decide (x8_4 < c7_7)) (do
      let x14_14 ← ixL c0_5 x8_4 1
      let x15_15 ← ldL x14_14
      let x16_16 ← callV Go.Proofs.Try.prog (fun r : Bool => .bool r) c1_6 [(x15_15 : Sl).v]
      M.ite x16_16 (do
        M.pure x8_4
        ) (do
        self1 (IntKind.wrap .i64 (x8_4 + 1))
        )
      ) (do
      M.pure (-1)
      )
def slices_IndexFunc_slslslslbyte_slslslbyte (x0 : Sl) (x1 : Value) : M (Int) := do
  M.loop (slices_IndexFunc_slslslslbyte_slslslbyte_l1 x0 x1 (x0.len : Int)) 0
theorem S_slices_IndexFunc_slslslslbyte_slslslbyte (x0 : Sl) (x1 : Value) : Sound Go.Proofs.Try.prog 62 #[(x0 : Sl).v, x1] (fun (r : Int) => .int .i64 r) (slices_IndexFunc_slslslslbyte_slslslbyte x0 x1) := by
  refine sound_of [(0, (x0 : Sl).v), (1, x1)] Go.Proofs.Try.func62 rfl rfl (Nat.le_of_ble_eq_true rfl) (args_of ⟨rfl, rfl, trivial⟩) (fun w0 w Q R a hret hE hR H => ?_)
  unfold slices_IndexFunc_slslslslbyte_slslslbyte at H
  refine w_seq (fun K hK_1 => ?_)
  refine t_region ?_
  refine t_val (v := .int .i64 0) rfl rfl hE rfl (r_assign hE rfl) (fun a hE => ?_)
  refine t_nil ?_
  refine hK_1 _ _ ?_
  refine w_seq (fun K hK_2 => ?_)
  refine w_seq (fun K hK_3 => ?_)
  refine t_region ?_
  refine t_val (v := (x0 : Sl).v) rfl rfl hE rfl (r_move hE rfl) (fun a hE => ?_)
  refine t_val (v := .int .i64 (x0.len : Int)) rfl rfl hE rfl (r_len hE rfl 22 un72) (fun a hE => ?_)
  refine t_val (v := .int .i64 0) rfl rfl hE rfl (r_move hE rfl) (fun a hE => ?_)
  refine t_nil ?_
  refine hK_3 _ _ ?_
  refine w_block ?_
  refine l_loop (fun (s : Int) => (⟨19, []⟩ : Frm)) (fun (s : Int) => [(0, (x0 : Sl).v), (1, x1), (7, .int .i64 (x0.len : Int)), (8, .int .i64 s)]) H (hE.cut (.cons rfl (.cons rfl (.cons rfl (.cons rfl Subs.nil))))) hR (fun Y self1 hY_8 x8_4 a w hE hR H => ?_)
  replace hE : Env (⟨19, []⟩ : Frm) a [(0, (x0 : Sl).v), (1, x1), (7, .int .i64 (x0.len : Int)), (8, .int .i64 x8_4)] := hE
  replace H : (slices_IndexFunc_slslslslbyte_slslslbyte_l1 x0 x1 (x0.len : Int) self1 x8_4).wp w.heap Q := H
  unfold slices_IndexFunc_slslslslbyte_slslslbyte_l1 at H
  refine w_seq (fun K hK_9 => ?_)
  refine t_region ?_
  refine t_val (v := .bool (decide (x8_4 < (x0.len : Int)))) rfl rfl hE rfl (r_bin hE rfl rfl g_int b_lss) (fun a hE => ?_)
  refine t_nil ?_
  refine hK_9 _ _ ?_
  refine w_seq (fun K hK_10 => ?_)
  refine w_cond (decide (x8_4 < (x0.len : Int))) hE rfl (fun hb => ?_) (fun hb => ?_)
  · replace H := M.ite_t hb H
    refine w_skip ?_
    refine hK_10 _ _ ?_
    refine w_seq (fun K hK_11 => ?_)
    refine w_block ?_
    refine w_seq (fun K hK_12 => ?_)
    refine t_region ?_
    refine t_val (v := .int .i64 x8_4) rfl rfl hE rfl (r_move hE rfl) (fun a hE => ?_)
    refine t_val (v := .int .i64 x8_4) rfl rfl hE rfl (r_assign hE rfl) (fun a hE => ?_)
    refine t_nil ?_
    refine hK_12 _ _ ?_
    refine w_seq (fun K hK_13 => ?_)
    refine t_region ?_
    refine t_val (v := x1) rfl rfl hE rfl (r_move hE rfl) (fun a hE => ?_)
    refine t_val (v := (x0 : Sl).v) rfl rfl hE rfl (r_move hE rfl) (fun a hE => ?_)
    refine t_val (v := .int .i64 x8_4) rfl rfl hE rfl (r_move hE rfl) (fun a hE => ?_)
    obtain ⟨x14_14, qx14_14, H⟩ := H
    refine t_val (v := .pointer (some x14_14)) rfl rfl hE rfl (r_indexAddrL hE rfl rfl un72 sz22 qx14_14) (fun a hE => ?_)
    obtain ⟨x15_15, qx15_15, H⟩ := H
    refine t_val (v := (x15_15 : Sl).v) rfl rfl hE rfl (r_load hE rfl sc22 qx15_15) (fun a hE => ?_)
    refine t_callV hE hR rfl rfl (M.unbind H) (fun x16_16 a w ea hR H => ?_)
    have hE := Env.put_some hE rfl ea; clear ea
    refine t_nil ?_
    refine hK_13 _ _ ?_
    refine w_cond x16_16 hE rfl (fun hb => ?_) (fun hb => ?_)
    · replace H := M.ite_t hb H
      refine w_seq (fun K hK_17 => ?_)
      refine t_region ?_
      refine t_val (v := .int .i64 x8_4) rfl rfl hE rfl (r_move hE rfl) (fun a hE => ?_)
      refine t_val (v := .int .i64 x8_4) rfl rfl hE rfl (r_assign hE rfl) (fun a hE => ?_)
      refine t_nil ?_
      refine hK_17 _ _ ?_
      refine w_ret ?_
      exact hret _ _ _ x8_4 _ hE hR (res_run hE rfl (RV.tmp rfl RV.nil)) rfl H
    · replace H := M.ite_f hb H
      refine w_skip ?_
      refine hK_11 _ _ ?_
      refine t_region ?_
      refine t_val (v := .int .i64 (IntKind.wrap .i64 (x8_4 + 1))) rfl rfl hE rfl (r_bin hE rfl rfl g_int b_add) (fun a hE => ?_)
      refine t_val (v := .int .i64 (IntKind.wrap .i64 (x8_4 + 1))) rfl rfl hE rfl (r_move hE rfl) (fun a hE => ?_)
      refine t_nil ?_
      exact hY_8 (IntKind.wrap .i64 (x8_4 + 1)) _ _ (hE.cut (.cons rfl (.cons rfl (.cons rfl (.cons rfl Subs.nil))))) hR H
  · replace H := M.ite_f hb H
    refine w_exit ?_
    refine Xu.same ?_
    refine hK_2 _ _ ?_
    refine w_seq (fun K hK_18 => ?_)
    refine t_region ?_
    refine t_val (v := .int .i64 (-1)) rfl rfl hE rfl (r_assign hE rfl) (fun a hE => ?_)
    refine t_nil ?_
    refine hK_18 _ _ ?_
    refine w_ret ?_
    exact hret _ _ _ (-1) _ hE hR (res_run hE rfl (RV.tmp rfl RV.nil)) rfl H

/-- slices.ContainsFunc[[][][][]byte,[][][]byte] -/
def slices_ContainsFunc_slslslslbyte_slslslbyte (x0 : Sl) (x1 : Value) : M (Bool) := do
  let x7_3 ← slices_IndexFunc_slslslslbyte_slslslbyte x0 x1
  M.pure (decide (x7_3 ≥ 0))
theorem S_slices_ContainsFunc_slslslslbyte_slslslbyte (x0 : Sl) (x1 : Value) : Sound Go.Proofs.Try.prog 36 #[(x0 : Sl).v, x1] (fun (r : Bool) => .bool r) (slices_ContainsFunc_slslslslbyte_slslslbyte x0 x1) := by
  refine sound_of [(0, (x0 : Sl).v), (1, x1)] Go.Proofs.Try.func36 rfl rfl (Nat.le_of_ble_eq_true rfl) (args_of ⟨rfl, rfl, trivial⟩) (fun w0 w Q R a hret hE hR H => ?_)
  unfold slices_ContainsFunc_slslslslbyte_slslslbyte at H
  refine w_seq (fun K hK_1 => ?_)
  refine t_region ?_
  refine t_val (v := .bool false) rfl rfl hE rfl (r_assign hE rfl) (fun a hE => ?_)
  refine t_nil ?_
  refine hK_1 _ _ ?_
  refine w_seq (fun K hK_2 => ?_)
  refine t_region ?_
  refine t_val (v := (x0 : Sl).v) rfl rfl hE rfl (r_move hE rfl) (fun a hE => ?_)
  refine t_val (v := x1) rfl rfl hE rfl (r_move hE rfl) (fun a hE => ?_)
  refine t_call hE hR cl_slices_IndexFunc_slslslslbyte_slslslbyte rfl (S_slices_IndexFunc_slslslslbyte_slslslbyte x0 x1) (M.unbind H) (fun x7_3 a w ea hR H => ?_)
  have hE := Env.put_some hE rfl ea; clear ea
  refine t_val (v := .bool (decide (x7_3 ≥ 0))) rfl rfl hE rfl (r_bin hE rfl rfl g_int b_geq) (fun a hE => ?_)
  refine t_val (v := .bool (decide (x7_3 ≥ 0))) rfl rfl hE rfl (r_assign hE rfl) (fun a hE => ?_)
  refine t_nil ?_
  refine hK_2 _ _ ?_
  refine w_ret ?_
  exact hret _ _ _ (decide (x7_3 ≥ 0)) _ hE hR (res_run hE rfl (RV.tmp rfl RV.nil)) rfl H

/-- ramble/ramblelaw06.WalWhole$1 -/
def ramblelaw06_WalWhole_1 (x0 : Sl) (x1 : Addr) : M (Bool) := do
  let x4_3 ← ldL x1
  let x6_4 ← rambleref06_Same x4_3 x0
  M.pure x6_4
theorem S_ramblelaw06_WalWhole_1 (x0 : Sl) (x1 : Addr) : Sound Go.Proofs.Try.prog 37 #[(x0 : Sl).v, .pointer (some x1)] (fun (r : Bool) => .bool r) (ramblelaw06_WalWhole_1 x0 x1) := by
  refine sound_of [(0, (x0 : Sl).v), (1, .pointer (some x1))] Go.Proofs.Try.func37 rfl rfl (Nat.le_of_ble_eq_true rfl) (args_of ⟨rfl, rfl, trivial⟩) (fun w0 w Q R a hret hE hR H => ?_)
  unfold ramblelaw06_WalWhole_1 at H
  refine w_seq (fun K hK_1 => ?_)
  refine t_region ?_
  refine t_val (v := .bool false) rfl rfl hE rfl (r_assign hE rfl) (fun a hE => ?_)
  refine t_nil ?_
  refine hK_1 _ _ ?_
  refine w_seq (fun K hK_2 => ?_)
  refine t_region ?_
  obtain ⟨x4_3, qx4_3, H⟩ := H
  refine t_val (v := (x4_3 : Sl).v) rfl rfl hE rfl (r_load hE rfl sc22 qx4_3) (fun a hE => ?_)
  refine t_val (v := (x0 : Sl).v) rfl rfl hE rfl (r_move hE rfl) (fun a hE => ?_)
  refine t_call hE hR cl_rambleref06_Same rfl (S_rambleref06_Same x4_3 x0) (M.unbind H) (fun x6_4 a w ea hR H => ?_)
  have hE := Env.put_some hE rfl ea; clear ea
  refine t_val (v := .bool x6_4) rfl rfl hE rfl (r_assign hE rfl) (fun a hE => ?_)
  refine t_nil ?_
  refine hK_2 _ _ ?_
  refine w_ret ?_
  exact hret _ _ _ x6_4 _ hE hR (res_run hE rfl (RV.tmp rfl RV.nil)) rfl H

end Gx
namespace Gx
open Go
set_option linter.unusedVariables false
set_option maxRecDepth 100000
/-- ramble/ramblelaw06.WalWhole -/
def ramblelaw06_WalWhole_j1 (c2_19 : Int) (c3_20 : Sl) (c9_21 : Option Addr) (x14_18 : Sl) : M (Bool) := do
  let x104_24 ← disk_Disk_Down c9_21
  let x112_25 ← M.ite (!x104_24) (do
    let x110_26 ← disk_Disk_Crash c9_21 c2_19 c3_20
    M.pure (x110_26 != 0)
    ) (do
    M.pure false
    )
  let x119_27 ← M.ite x112_25 (do
    M.pure true
    ) (do
    let x117_28 ← disk_Disk_Start c9_21 c2_19 c3_20
    M.pure (x117_28 != 0)
    )
  M.ite x119_27 (do
    M.pure false
    ) (do
    let x122_31 ← wal_Open c9_21
    let x20_32 ← mkB ty_sl_sl_sl_uint8 (#[.slice none 0 0] : Array Value)
    stV x20_32 ((x122_31.2.2.1 : Sl).v)
    let x129_35 ← wal_Open c9_21
    let x139_38 ← M.ite (x122_31.2.2.2 != 0) (do
      M.pure true
      ) (do
      M.pure (x129_35.2.2.2 != 0)
      )
    let x145_39 ← M.ite x139_38 (do
      M.pure true
      ) (do
      let x141_40 ← ldL x20_32
      let x143_41 ← rambleref06_Same x141_40 x129_35.2.2.1
      M.pure (!x143_41)
      )
    M.ite x145_39 (do
      M.pure false
      ) (do
      let x148_44 ← slices_ContainsFunc_slslslslbyte_slslslbyte x14_18 (Value.func (.func fn_ramblelaw06_WalWhole_1) #[] #[.pointer (some x20_32)])
      M.pure x148_44
      )
    )
def ramblelaw06_WalWhole_j2 (self1 : (Sl × Sl × Int) → M (Bool)) (c57_66 : Int) (x13_58 : Sl) (x14_59 : Sl) : M (Bool) := do
  self1 (x13_58, x14_59, IntKind.wrap .i64 (c57_66 + 1))
theorem tb8_14 : tabAt Go.Proofs.Try.f8 14 [[], [0], [], [2], [3], [1, 4, 1], [5, 5, 0, 1, 2, 3, 4, 5]] [[], [0], [], [2], [3], [1, 4], [5]] [[], [0], [], [2], [2, 3], [0, 1, 2, 3, 4], [0, 1, 2, 3, 4, 5]] = true := by kernel_rfl
def ramblelaw06_WalWhole_l1 (c2_49 : Int) (c3_50 : Sl) (c9_51 : Option Addr) (c11_52 : Option Addr) (c55_53 : Sl) (c56_54 : Int) (self1 : (Sl × Sl × Int) → M (Bool)) : (Sl × Sl × Int) → M (Bool) := fun s => match s with
  | (x13_46, x14_47, x57_48) => do
    M.ite (decide (x57_48 < c56_54)) (do
      let x59_68 ← ixL c55_53 x57_48 6
      let x60_69 ← ldG 6 x59_68
      let x16_70 ← mkB ty_ramblelaw06_Op (#[.int .i64 0, .slice none 0 0, .int .i64 0, .int .i64 0, .slice none 0 0, .int .u32 0] : Array Value)
      M.need (x60_69.size = 6)
      stG x16_70 x60_69
      let x62_74 ← disk_Disk_Down c9_51
      M.ite x62_74 (do
        ramblelaw06_WalWhole_j1 c2_49 c3_50 c9_51 x14_47
        ) (do
        let x64_76 ← bdL ty_sl_sl_sl_uint8 1 #[(x13_46 : Sl).v]
        let x66_78 ← ldI .i64 ((x16_70).add 0)
        M.ite (x66_78 == 0) (do
          let x72_81 ← ldL ((x16_70).add 1)
          let y_86 ← do
            M.both (do
              let x70_82 ← slices_Clone_slslslbyte_slslbyte x13_46
              chk (fun h : Heap => (hcell h ((x16_70).add 1) = some ((x72_81 : Sl).v)))
              let x73_83 ← bdL ty_sl_sl_uint8 1 #[(x72_81 : Sl).v]
              M.pure (x70_82, x73_83)
              ) (do
              let x73_84 ← bdL ty_sl_sl_uint8 1 #[(x72_81 : Sl).v]
              chk (fun h : Heap => (hcell h ((x16_70).add 1) = some ((x72_81 : Sl).v)))
              let x70_85 ← slices_Clone_slslslbyte_slslbyte x13_46
              chk (fun h : Heap => (hcell h ((x16_70).add 1) = some ((x72_81 : Sl).v)))
              M.pure (x70_85, x73_84)
              )
          let x74_87 ← apL ty_sl_sl_uint8 1 24 (#[.slice none 0 0] : Array Value) y_86.1 y_86.2
          let x77_89 ← ldL ((x16_70).add 1)
          let x78_90 ← wal_Log_Append c11_52 x77_89
          M.ite (x78_90 == 0) (do
            let x83_92 ← bdL ty_sl_sl_sl_uint8 1 #[(x74_87 : Sl).v]
            ramblelaw06_WalWhole_j2 self1 x57_48 x74_87 x83_92
            ) (do
            M.ite (x78_90 == 9) (do
              let x88_94 ← bdL ty_sl_sl_sl_uint8 1 #[(x74_87 : Sl).v]
              let x89_95 ← apL ty_sl_sl_sl_uint8 1 24 (#[.slice none 0 0] : Array Value) x64_76 x88_94
              ramblelaw06_WalWhole_j2 self1 x57_48 x13_46 x89_95
              ) (do
              ramblelaw06_WalWhole_j2 self1 x57_48 x13_46 x64_76
              )
            )
          ) (do
          M.ite (x66_78 == 1) (do
            let x93_98 ← wal_Log_Reset c11_52
            M.ite (x93_98 == 0) (do
              let x96_100 ← bdL ty_sl_sl_sl_uint8 1 #[(Sl.nil : Sl).v]
              ramblelaw06_WalWhole_j2 self1 x57_48 Sl.nil x96_100
              ) (do
              M.ite (x93_98 == 9) (do
                let x100_102 ← bdL ty_sl_sl_sl_uint8 1 #[(Sl.nil : Sl).v]
                let x101_103 ← apL ty_sl_sl_sl_uint8 1 24 (#[.slice none 0 0] : Array Value) x64_76 x100_102
                ramblelaw06_WalWhole_j2 self1 x57_48 x13_46 x101_103
                ) (do
                ramblelaw06_WalWhole_j2 self1 x57_48 x13_46 x64_76
                )
              )
            ) (do
            ramblelaw06_WalWhole_j2 self1 x57_48 x13_46 x64_76
            )
          )
        )
      ) (do
      ramblelaw06_WalWhole_j1 c2_49 c3_50 c9_51 x14_47
      )
def ramblelaw06_WalWhole (x0 : Sl) (x1 : Int) (x2 : Int) (x3 : Sl) : M (Bool) := do
  let x25_3 ← disk_New 40
  let x30_5 ← wal_Format x25_3.1 30 Sl.nil
  let x33_8 ← ramblelaw06_begun
  let x38_9 ← M.ite (!x33_8) (do
    M.pure true
    ) (do
    M.pure (x25_3.2 != 0)
    )
  let x42_10 ← M.ite x38_9 (do
    M.pure true
    ) (do
    M.pure (x30_5.2 != 0)
    )
  let x46_11 ← M.ite x42_10 (do
    M.pure true
    ) (do
    M.pure ((x30_5.1).isNone)
    )
  let x53_12 ← M.ite x46_11 (do
    M.pure true
    ) (do
    let x51_13 ← disk_Disk_SetFuse x25_3.1 (IntKind.wrap .i64 x1)
    M.pure (x51_13 != 0)
    )
  M.ite x53_12 (do
    M.pure false
    ) (do
    let x54_17 ← bdL ty_sl_sl_sl_uint8 1 #[(Sl.nil : Sl).v]
    M.loop (ramblelaw06_WalWhole_l1 x2 x3 x25_3.1 x30_5.1 x0 (x0.len : Int)) (Sl.nil, x54_17, 0)
    )
theorem S_ramblelaw06_WalWhole (x0 : Sl) (x1 : Int) (x2 : Int) (x3 : Sl) : Sound Go.Proofs.Try.prog 8 #[(x0 : Sl).v, .int .u8 x1, .int .i64 x2, (x3 : Sl).v] (fun (r : Bool) => .bool r) (ramblelaw06_WalWhole x0 x1 x2 x3) := by
  refine sound_of [(0, (x0 : Sl).v), (1, .int .u8 x1), (2, .int .i64 x2), (3, (x3 : Sl).v)] Go.Proofs.Try.func8 rfl rfl (Nat.le_of_ble_eq_true rfl) (args_of ⟨rfl, rfl, rfl, rfl, trivial⟩) (fun w0 w Q R a hret hE hR H => ?_)
  unfold ramblelaw06_WalWhole at H
  refine w_seq (fun K hK_1 => ?_)
  refine t_region ?_
  refine t_val (v := .bool false) rfl rfl hE rfl (r_assign hE rfl) (fun a hE => ?_)
  refine t_nil ?_
  refine hK_1 _ _ ?_
  refine w_seq (fun K hK_2 => ?_)
  refine t_region ?_
  refine t_call hE hR cl_disk_New rfl (S_disk_New 40) (M.unbind H) (fun x25_3 a w ea hR H => ?_)
  have hE := Env.put_some hE rfl ea; clear ea
  refine t_val (v := .tuple #[.pointer x25_3.1, .int .i64 x25_3.2]) rfl rfl hE rfl (r_move hE rfl) (fun a hE => ?_)
  refine t_val (v := .pointer x25_3.1) rfl rfl hE rfl (r_extract hE rfl rfl) (fun a hE => ?_)
  refine t_val (v := .int .i64 x25_3.2) rfl rfl hE rfl (r_extract hE rfl rfl) (fun a hE => ?_)
  refine t_val (v := .pointer x25_3.1) rfl rfl hE rfl (r_assign hE rfl) (fun a hE => ?_)
  refine t_val (v := .int .i64 x25_3.2) rfl rfl hE rfl (r_assign hE rfl) (fun a hE => ?_)
  refine t_nil ?_
  refine hK_2 _ _ ?_
  refine w_seq (fun K hK_4 => ?_)
  refine t_region ?_
  refine t_val (v := .pointer x25_3.1) rfl rfl hE rfl (r_move hE rfl) (fun a hE => ?_)
  refine t_call hE hR cl_wal_Format rfl (S_wal_Format x25_3.1 30 Sl.nil) (M.unbind H) (fun x30_5 a w ea hR H => ?_)
  have hE := Env.put_some hE rfl ea; clear ea
  refine t_val (v := .tuple #[.pointer x30_5.1, .int .i64 x30_5.2]) rfl rfl hE rfl (r_move hE rfl) (fun a hE => ?_)
  refine t_val (v := .pointer x30_5.1) rfl rfl hE rfl (r_extract hE rfl rfl) (fun a hE => ?_)
  refine t_val (v := .int .i64 x30_5.2) rfl rfl hE rfl (r_extract hE rfl rfl) (fun a hE => ?_)
  refine t_val (v := .pointer x30_5.1) rfl rfl hE rfl (r_assign hE rfl) (fun a hE => ?_)
  refine t_val (v := .int .i64 x30_5.2) rfl rfl hE rfl (r_assign hE rfl) (fun a hE => ?_)
  refine t_nil ?_
  refine hK_4 _ _ ?_
  refine w_seq (fun K hK_6 => ?_)
  refine w_seq (fun K hK_7 => ?_)
  refine t_region ?_
  refine t_call hE hR cl_ramblelaw06_begun rfl (S_ramblelaw06_begun ) (M.unbind H) (fun x33_8 a w ea hR H => ?_)
  have hE := Env.put_some hE rfl ea; clear ea
  refine t_val (v := .bool (!x33_8)) rfl rfl hE rfl (r_un hE rfl u_not) (fun a hE => ?_)
  refine t_val (v := .bool (!x33_8)) rfl rfl hE rfl (r_move hE rfl) (fun a hE => ?_)
  refine t_grp (n := (⟨149, []⟩ : Frm)) (w0 := w0) 3 (fun x38_9 : Bool => [(0, (x0 : Sl).v), (1, .int .u8 x1), (2, .int .i64 x2), (3, (x3 : Sl).v), (9, .pointer x25_3.1), (11, .pointer x30_5.1), (12, .int .i64 x30_5.2), (38, .bool x38_9)]) (M.unbind H) (fun Kr hKr H => ?_) ?_
  · rcases bool_em (!x33_8) with hb | hb
    · replace H := M.ite_t hb H
      have hE := hE.reb 35 (!x33_8) true hb rfl
      refine t_off rfl hE rfl rfl rfl (fun a ea => ?_)
      have hE := Env.put_some hE rfl ea; clear ea
      refine t_off rfl hE rfl rfl rfl (fun a ea => ?_)
      have hE := Env.put_some hE rfl ea; clear ea
      refine t_val rfl rfl hE rfl (r_pick_t hE rfl rfl) (fun a hE => ?_)
      refine t_nil ?_
      exact hKr _ _ _ (hE.cut (.cons rfl (.cons rfl (.cons rfl (.cons rfl (.cons rfl (.cons rfl (.cons rfl (.cons rfl Subs.nil))))))))) hR H
    · replace H := M.ite_f hb H
      have hE := hE.reb 35 (!x33_8) false hb rfl
      refine t_on rfl hE rfl rfl rfl ?_
      refine t_val (v := .int .i64 x25_3.2) rfl rfl hE rfl (r_move hE rfl) (fun a hE => ?_)
      refine t_on rfl hE rfl rfl rfl ?_
      refine t_val (v := .bool (x25_3.2 != 0)) rfl rfl hE rfl (r_bin hE rfl rfl g_int b_neq) (fun a hE => ?_)
      refine t_val rfl rfl hE rfl (r_pick_f hE rfl rfl) (fun a hE => ?_)
      refine t_nil ?_
      exact hKr _ _ _ (hE.cut (.cons rfl (.cons rfl (.cons rfl (.cons rfl (.cons rfl (.cons rfl (.cons rfl (.cons rfl Subs.nil))))))))) hR H
  · intro x38_9 a w hE hR H
    refine t_val (v := .bool x38_9) rfl rfl hE rfl (r_move hE rfl) (fun a hE => ?_)
    refine t_grp (n := (⟨149, []⟩ : Frm)) (w0 := w0) 3 (fun x42_10 : Bool => [(0, (x0 : Sl).v), (1, .int .u8 x1), (2, .int .i64 x2), (3, (x3 : Sl).v), (9, .pointer x25_3.1), (11, .pointer x30_5.1), (42, .bool x42_10)]) (M.unbind H) (fun Kr hKr H => ?_) ?_
    · rcases bool_em x38_9 with hb | hb
      · replace H := M.ite_t hb H
        have hE := hE.reb 39 x38_9 true hb rfl
        refine t_off rfl hE rfl rfl rfl (fun a ea => ?_)
        have hE := Env.put_some hE rfl ea; clear ea
        refine t_off rfl hE rfl rfl rfl (fun a ea => ?_)
        have hE := Env.put_some hE rfl ea; clear ea
        refine t_val rfl rfl hE rfl (r_pick_t hE rfl rfl) (fun a hE => ?_)
        refine t_nil ?_
        exact hKr _ _ _ (hE.cut (.cons rfl (.cons rfl (.cons rfl (.cons rfl (.cons rfl (.cons rfl (.cons rfl Subs.nil)))))))) hR H
      · replace H := M.ite_f hb H
        have hE := hE.reb 39 x38_9 false hb rfl
        refine t_on rfl hE rfl rfl rfl ?_
        refine t_val (v := .int .i64 x30_5.2) rfl rfl hE rfl (r_move hE rfl) (fun a hE => ?_)
        refine t_on rfl hE rfl rfl rfl ?_
        refine t_val (v := .bool (x30_5.2 != 0)) rfl rfl hE rfl (r_bin hE rfl rfl g_int b_neq) (fun a hE => ?_)
        refine t_val rfl rfl hE rfl (r_pick_f hE rfl rfl) (fun a hE => ?_)
        refine t_nil ?_
        exact hKr _ _ _ (hE.cut (.cons rfl (.cons rfl (.cons rfl (.cons rfl (.cons rfl (.cons rfl (.cons rfl Subs.nil)))))))) hR H
    · intro x42_10 a w hE hR H
      refine t_val (v := .bool x42_10) rfl rfl hE rfl (r_move hE rfl) (fun a hE => ?_)
      refine t_grp (n := (⟨149, []⟩ : Frm)) (w0 := w0) 3 (fun x46_11 : Bool => [(0, (x0 : Sl).v), (1, .int .u8 x1), (2, .int .i64 x2), (3, (x3 : Sl).v), (9, .pointer x25_3.1), (11, .pointer x30_5.1), (46, .bool x46_11)]) (M.unbind H) (fun Kr hKr H => ?_) ?_
      · rcases bool_em x42_10 with hb | hb
        · replace H := M.ite_t hb H
          have hE := hE.reb 43 x42_10 true hb rfl
          refine t_off rfl hE rfl rfl rfl (fun a ea => ?_)
          have hE := Env.put_some hE rfl ea; clear ea
          refine t_off rfl hE rfl rfl rfl (fun a ea => ?_)
          have hE := Env.put_some hE rfl ea; clear ea
          refine t_val rfl rfl hE rfl (r_pick_t hE rfl rfl) (fun a hE => ?_)
          refine t_nil ?_
          exact hKr _ _ _ (hE.cut (.cons rfl (.cons rfl (.cons rfl (.cons rfl (.cons rfl (.cons rfl (.cons rfl Subs.nil)))))))) hR H
        · replace H := M.ite_f hb H
          have hE := hE.reb 43 x42_10 false hb rfl
          refine t_on rfl hE rfl rfl rfl ?_
          refine t_val (v := .pointer x30_5.1) rfl rfl hE rfl (r_move hE rfl) (fun a hE => ?_)
          refine t_on rfl hE rfl rfl rfl ?_
          refine t_val (v := .bool ((x30_5.1).isNone)) rfl rfl hE rfl (r_bin hE rfl rfl g_ptr (b_eqlP un27)) (fun a hE => ?_)
          refine t_val rfl rfl hE rfl (r_pick_f hE rfl rfl) (fun a hE => ?_)
          refine t_nil ?_
          exact hKr _ _ _ (hE.cut (.cons rfl (.cons rfl (.cons rfl (.cons rfl (.cons rfl (.cons rfl (.cons rfl Subs.nil)))))))) hR H
      · intro x46_11 a w hE hR H
        refine t_val (v := .bool x46_11) rfl rfl hE rfl (r_move hE rfl) (fun a hE => ?_)
        refine t_grp (n := (⟨149, []⟩ : Frm)) (w0 := w0) 6 (fun x53_12 : Bool => [(0, (x0 : Sl).v), (2, .int .i64 x2), (3, (x3 : Sl).v), (9, .pointer x25_3.1), (11, .pointer x30_5.1), (53, .bool x53_12)]) (M.unbind H) (fun Kr hKr H => ?_) ?_
        · rcases bool_em x46_11 with hb | hb
          · replace H := M.ite_t hb H
            have hE := hE.reb 47 x46_11 true hb rfl
            refine t_off rfl hE rfl rfl rfl (fun a ea => ?_)
            have hE := Env.put_some hE rfl ea; clear ea
            refine t_off rfl hE rfl rfl rfl (fun a ea => ?_)
            have hE := Env.put_some hE rfl ea; clear ea
            refine t_off rfl hE rfl rfl rfl (fun a ea => ?_)
            have hE := Env.put_some hE rfl ea; clear ea
            refine t_off rfl hE rfl rfl rfl (fun a ea => ?_)
            have hE := Env.put_some hE rfl ea; clear ea
            refine t_off rfl hE rfl rfl rfl (fun a ea => ?_)
            have hE := Env.put_some hE rfl ea; clear ea
            refine t_val rfl rfl hE rfl (r_pick_t hE rfl rfl) (fun a hE => ?_)
            refine t_nil ?_
            exact hKr _ _ _ (hE.cut (.cons rfl (.cons rfl (.cons rfl (.cons rfl (.cons rfl (.cons rfl Subs.nil))))))) hR H
          · replace H := M.ite_f hb H
            have hE := hE.reb 47 x46_11 false hb rfl
            refine t_on rfl hE rfl rfl rfl ?_
            refine t_val (v := .pointer x25_3.1) rfl rfl hE rfl (r_move hE rfl) (fun a hE => ?_)
            refine t_on rfl hE rfl rfl rfl ?_
            refine t_val (v := .int .u8 x1) rfl rfl hE rfl (r_move hE rfl) (fun a hE => ?_)
            refine t_on rfl hE rfl rfl rfl ?_
            refine t_val (v := .int .i64 (IntKind.wrap .i64 x1)) rfl rfl hE rfl (r_convI hE rfl un5 un3) (fun a hE => ?_)
            refine t_on rfl hE rfl rfl rfl ?_
            refine t_call hE hR cl_disk_Disk_SetFuse rfl (S_disk_Disk_SetFuse x25_3.1 (IntKind.wrap .i64 x1)) (M.unbind H) (fun x51_13 a w ea hR H => ?_)
            have hE := Env.put_some hE rfl ea; clear ea
            refine t_on rfl hE rfl rfl rfl ?_
            refine t_val (v := .bool (x51_13 != 0)) rfl rfl hE rfl (r_bin hE rfl rfl g_int b_neq) (fun a hE => ?_)
            refine t_val rfl rfl hE rfl (r_pick_f hE rfl rfl) (fun a hE => ?_)
            refine t_nil ?_
            exact hKr _ _ _ (hE.cut (.cons rfl (.cons rfl (.cons rfl (.cons rfl (.cons rfl (.cons rfl Subs.nil))))))) hR H
        · intro x53_12 a w hE hR H
          refine t_nil ?_
          refine hK_7 _ _ ?_
          refine w_cond x53_12 hE rfl (fun hb => ?_) (fun hb => ?_)
          · replace H := M.ite_t hb H
            refine w_seq (fun K hK_14 => ?_)
            refine t_region ?_
            refine t_val (v := .bool false) rfl rfl hE rfl (r_assign hE rfl) (fun a hE => ?_)
            refine t_nil ?_
            refine hK_14 _ _ ?_
            refine w_ret ?_
            exact hret _ _ _ false _ hE hR (res_run hE rfl (RV.tmp rfl RV.nil)) rfl H
          · replace H := M.ite_f hb H
            refine w_skip ?_
            refine hK_6 _ _ ?_
            refine w_seq (fun K hK_15 => ?_)
            refine t_region ?_
            refine t_val (v := (Sl.nil : Sl).v) rfl rfl hE rfl (r_assign hE rfl) (fun a hE => ?_)
            refine t_nil ?_
            refine hK_15 _ _ ?_
            refine w_seq (fun K hK_16 => ?_)
            refine t_region ?_
            obtain ⟨x54_17, qx54_17, H⟩ := H
            refine t_valh (v := (x54_17 : Sl).v) rfl rfl hE rfl hR (r_buildL (cells := #[(Sl.nil : Sl).v]) hE rfl un72 sz22 zr22 rfl rfl qx54_17) (fun a w hE hR hh => ?_)
            replace H := M.at hh H; clear hh
            refine t_val (v := (x54_17 : Sl).v) rfl rfl hE rfl (r_assign hE rfl) (fun a hE => ?_)
            refine t_nil ?_
            refine hK_16 _ _ ?_
            refine w_seq_join (fun a w => ∃ (x14_18 : Sl), Env (⟨149, []⟩ : Frm) a [(2, .int .i64 x2), (3, (x3 : Sl).v), (9, .pointer x25_3.1), (14, (x14_18 : Sl).v)] ∧ Rest w0 w ∧ (ramblelaw06_WalWhole_j1 x2 x3 x25_3.1 x14_18).wp w.heap Q) ?_ ?_
            · rintro a w ⟨x14_18, hE, hR, H⟩
              unfold ramblelaw06_WalWhole_j1 at H
              refine w_seq (fun K hK_22 => ?_)
              refine w_seq (fun K hK_23 => ?_)
              refine t_region ?_
              refine t_val (v := .pointer x25_3.1) rfl rfl hE rfl (r_move hE rfl) (fun a hE => ?_)
              refine t_call hE hR cl_disk_Disk_Down rfl (S_disk_Disk_Down x25_3.1) (M.unbind H) (fun x104_24 a w ea hR H => ?_)
              have hE := Env.put_some hE rfl ea; clear ea
              refine t_val (v := .bool (!x104_24)) rfl rfl hE rfl (r_un hE rfl u_not) (fun a hE => ?_)
              refine t_val (v := .bool (!x104_24)) rfl rfl hE rfl (r_move hE rfl) (fun a hE => ?_)
              refine t_grp (n := (⟨149, []⟩ : Frm)) (w0 := w0) 6 (fun x112_25 : Bool => [(2, .int .i64 x2), (3, (x3 : Sl).v), (9, .pointer x25_3.1), (14, (x14_18 : Sl).v), (112, .bool x112_25)]) (M.unbind H) (fun Kr hKr H => ?_) ?_
              · rcases bool_em (!x104_24) with hb | hb
                · replace H := M.ite_t hb H
                  have hE := hE.reb 106 (!x104_24) true hb rfl
                  refine t_on rfl hE rfl rfl rfl ?_
                  refine t_val (v := .pointer x25_3.1) rfl rfl hE rfl (r_move hE rfl) (fun a hE => ?_)
                  refine t_on rfl hE rfl rfl rfl ?_
                  refine t_val (v := .int .i64 x2) rfl rfl hE rfl (r_move hE rfl) (fun a hE => ?_)
                  refine t_on rfl hE rfl rfl rfl ?_
                  refine t_val (v := (x3 : Sl).v) rfl rfl hE rfl (r_move hE rfl) (fun a hE => ?_)
                  refine t_on rfl hE rfl rfl rfl ?_
                  refine t_call hE hR cl_disk_Disk_Crash rfl (S_disk_Disk_Crash x25_3.1 x2 x3) (M.unbind H) (fun x110_26 a w ea hR H => ?_)
                  have hE := Env.put_some hE rfl ea; clear ea
                  refine t_on rfl hE rfl rfl rfl ?_
                  refine t_val (v := .bool (x110_26 != 0)) rfl rfl hE rfl (r_bin hE rfl rfl g_int b_neq) (fun a hE => ?_)
                  refine t_val rfl rfl hE rfl (r_pick_t hE rfl rfl) (fun a hE => ?_)
                  refine t_nil ?_
                  exact hKr _ _ _ (hE.cut (.cons rfl (.cons rfl (.cons rfl (.cons rfl (.cons rfl Subs.nil)))))) hR H
                · replace H := M.ite_f hb H
                  have hE := hE.reb 106 (!x104_24) false hb rfl
                  refine t_off rfl hE rfl rfl rfl (fun a ea => ?_)
                  have hE := Env.put_some hE rfl ea; clear ea
                  refine t_off rfl hE rfl rfl rfl (fun a ea => ?_)
                  have hE := Env.put_some hE rfl ea; clear ea
                  refine t_off rfl hE rfl rfl rfl (fun a ea => ?_)
                  have hE := Env.put_some hE rfl ea; clear ea
                  refine t_off rfl hE rfl rfl rfl (fun a ea => ?_)
                  have hE := Env.put_some hE rfl ea; clear ea
                  refine t_off rfl hE rfl rfl rfl (fun a ea => ?_)
                  have hE := Env.put_some hE rfl ea; clear ea
                  refine t_val rfl rfl hE rfl (r_pick_f hE rfl rfl) (fun a hE => ?_)
                  refine t_nil ?_
                  exact hKr _ _ _ (hE.cut (.cons rfl (.cons rfl (.cons rfl (.cons rfl (.cons rfl Subs.nil)))))) hR H
              · intro x112_25 a w hE hR H
                refine t_val (v := .bool x112_25) rfl rfl hE rfl (r_move hE rfl) (fun a hE => ?_)
                refine t_grp (n := (⟨149, []⟩ : Frm)) (w0 := w0) 6 (fun x119_27 : Bool => [(9, .pointer x25_3.1), (14, (x14_18 : Sl).v), (119, .bool x119_27)]) (M.unbind H) (fun Kr hKr H => ?_) ?_
                · rcases bool_em x112_25 with hb | hb
                  · replace H := M.ite_t hb H
                    have hE := hE.reb 113 x112_25 true hb rfl
                    refine t_off rfl hE rfl rfl rfl (fun a ea => ?_)
                    have hE := Env.put_some hE rfl ea; clear ea
                    refine t_off rfl hE rfl rfl rfl (fun a ea => ?_)
                    have hE := Env.put_some hE rfl ea; clear ea
                    refine t_off rfl hE rfl rfl rfl (fun a ea => ?_)
                    have hE := Env.put_some hE rfl ea; clear ea
                    refine t_off rfl hE rfl rfl rfl (fun a ea => ?_)
                    have hE := Env.put_some hE rfl ea; clear ea
                    refine t_off rfl hE rfl rfl rfl (fun a ea => ?_)
                    have hE := Env.put_some hE rfl ea; clear ea
                    refine t_val rfl rfl hE rfl (r_pick_t hE rfl rfl) (fun a hE => ?_)
                    refine t_nil ?_
                    exact hKr _ _ _ (hE.cut (.cons rfl (.cons rfl (.cons rfl Subs.nil)))) hR H
                  · replace H := M.ite_f hb H
                    have hE := hE.reb 113 x112_25 false hb rfl
                    refine t_on rfl hE rfl rfl rfl ?_
                    refine t_val (v := .pointer x25_3.1) rfl rfl hE rfl (r_move hE rfl) (fun a hE => ?_)
                    refine t_on rfl hE rfl rfl rfl ?_
                    refine t_val (v := .int .i64 x2) rfl rfl hE rfl (r_move hE rfl) (fun a hE => ?_)
                    refine t_on rfl hE rfl rfl rfl ?_
                    refine t_val (v := (x3 : Sl).v) rfl rfl hE rfl (r_move hE rfl) (fun a hE => ?_)
                    refine t_on rfl hE rfl rfl rfl ?_
                    refine t_call hE hR cl_disk_Disk_Start rfl (S_disk_Disk_Start x25_3.1 x2 x3) (M.unbind H) (fun x117_28 a w ea hR H => ?_)
                    have hE := Env.put_some hE rfl ea; clear ea
                    refine t_on rfl hE rfl rfl rfl ?_
                    refine t_val (v := .bool (x117_28 != 0)) rfl rfl hE rfl (r_bin hE rfl rfl g_int b_neq) (fun a hE => ?_)
                    refine t_val rfl rfl hE rfl (r_pick_f hE rfl rfl) (fun a hE => ?_)
                    refine t_nil ?_
                    exact hKr _ _ _ (hE.cut (.cons rfl (.cons rfl (.cons rfl Subs.nil)))) hR H
                · intro x119_27 a w hE hR H
                  refine t_nil ?_
                  refine hK_23 _ _ ?_
                  refine w_cond x119_27 hE rfl (fun hb => ?_) (fun hb => ?_)
                  · replace H := M.ite_t hb H
                    refine w_seq (fun K hK_29 => ?_)
                    refine t_region ?_
                    refine t_val (v := .bool false) rfl rfl hE rfl (r_assign hE rfl) (fun a hE => ?_)
                    refine t_nil ?_
                    refine hK_29 _ _ ?_
                    refine w_ret ?_
                    exact hret _ _ _ false _ hE hR (res_run hE rfl (RV.tmp rfl RV.nil)) rfl H
                  · replace H := M.ite_f hb H
                    refine w_skip ?_
                    refine hK_22 _ _ ?_
                    refine w_seq (fun K hK_30 => ?_)
                    refine t_region ?_
                    refine t_val (v := .pointer x25_3.1) rfl rfl hE rfl (r_move hE rfl) (fun a hE => ?_)
                    refine t_call hE hR cl_wal_Open rfl (S_wal_Open x25_3.1) (M.unbind H) (fun x122_31 a w ea hR H => ?_)
                    have hE := Env.put_some hE rfl ea; clear ea
                    refine t_val (v := .tuple #[.pointer x122_31.1, (x122_31.2.1 : Sl).v, (x122_31.2.2.1 : Sl).v, .int .i64 x122_31.2.2.2]) rfl rfl hE rfl (r_move hE rfl) (fun a hE => ?_)
                    refine t_val (v := .pointer x122_31.1) rfl rfl hE rfl (r_extract hE rfl rfl) (fun a hE => ?_)
                    refine t_val (v := (x122_31.2.1 : Sl).v) rfl rfl hE rfl (r_extract hE rfl rfl) (fun a hE => ?_)
                    refine t_val (v := (x122_31.2.2.1 : Sl).v) rfl rfl hE rfl (r_extract hE rfl rfl) (fun a hE => ?_)
                    refine t_val (v := .int .i64 x122_31.2.2.2) rfl rfl hE rfl (r_extract hE rfl rfl) (fun a hE => ?_)
                    obtain ⟨x20_32, qx20_32, H⟩ := H
                    refine t_valh (v := .pointer (some x20_32)) rfl rfl hE rfl hR (r_alloc zr22 qx20_32) (fun a w hE hR hh => ?_)
                    replace H := M.at hh H; clear hh
                    refine t_val (v := .pointer x122_31.1) rfl rfl hE rfl (r_assign hE rfl) (fun a hE => ?_)
                    refine t_val (v := (x122_31.2.1 : Sl).v) rfl rfl hE rfl (r_assign hE rfl) (fun a hE => ?_)
                    obtain ⟨u_33, qu_33, H⟩ := H
                    refine t_sth rfl rfl hE hR (r_store hE rfl rfl sz22 qu_33) (fun a w hE hR hh => ?_)
                    replace H := M.at hh H; clear hh
                    refine t_val (v := .int .i64 x122_31.2.2.2) rfl rfl hE rfl (r_assign hE rfl) (fun a hE => ?_)
                    refine t_nil ?_
                    refine hK_30 _ _ ?_
                    refine w_seq (fun K hK_34 => ?_)
                    refine t_region ?_
                    refine t_val (v := .pointer x25_3.1) rfl rfl hE rfl (r_move hE rfl) (fun a hE => ?_)
                    refine t_call hE hR cl_wal_Open rfl (S_wal_Open x25_3.1) (M.unbind H) (fun x129_35 a w ea hR H => ?_)
                    have hE := Env.put_some hE rfl ea; clear ea
                    refine t_val (v := .tuple #[.pointer x129_35.1, (x129_35.2.1 : Sl).v, (x129_35.2.2.1 : Sl).v, .int .i64 x129_35.2.2.2]) rfl rfl hE rfl (r_move hE rfl) (fun a hE => ?_)
                    refine t_val (v := .pointer x129_35.1) rfl rfl hE rfl (r_extract hE rfl rfl) (fun a hE => ?_)
                    refine t_val (v := (x129_35.2.1 : Sl).v) rfl rfl hE rfl (r_extract hE rfl rfl) (fun a hE => ?_)
                    refine t_val (v := (x129_35.2.2.1 : Sl).v) rfl rfl hE rfl (r_extract hE rfl rfl) (fun a hE => ?_)
                    refine t_val (v := .int .i64 x129_35.2.2.2) rfl rfl hE rfl (r_extract hE rfl rfl) (fun a hE => ?_)
                    refine t_val (v := .pointer x129_35.1) rfl rfl hE rfl (r_assign hE rfl) (fun a hE => ?_)
                    refine t_val (v := (x129_35.2.1 : Sl).v) rfl rfl hE rfl (r_assign hE rfl) (fun a hE => ?_)
                    refine t_val (v := (x129_35.2.2.1 : Sl).v) rfl rfl hE rfl (r_assign hE rfl) (fun a hE => ?_)
                    refine t_val (v := .int .i64 x129_35.2.2.2) rfl rfl hE rfl (r_assign hE rfl) (fun a hE => ?_)
                    refine t_nil ?_
                    refine hK_34 _ _ ?_
                    refine w_seq (fun K hK_36 => ?_)
                    refine w_seq (fun K hK_37 => ?_)
                    refine t_region ?_
                    refine t_val (v := .int .i64 x122_31.2.2.2) rfl rfl hE rfl (r_move hE rfl) (fun a hE => ?_)
                    refine t_val (v := .bool (x122_31.2.2.2 != 0)) rfl rfl hE rfl (r_bin hE rfl rfl g_int b_neq) (fun a hE => ?_)
                    refine t_val (v := .bool (x122_31.2.2.2 != 0)) rfl rfl hE rfl (r_move hE rfl) (fun a hE => ?_)
                    refine t_grp (n := (⟨149, []⟩ : Frm)) (w0 := w0) 3 (fun x139_38 : Bool => [(14, (x14_18 : Sl).v), (20, .pointer (some x20_32)), (23, (x129_35.2.2.1 : Sl).v), (139, .bool x139_38)]) (M.unbind H) (fun Kr hKr H => ?_) ?_
                    · rcases bool_em (x122_31.2.2.2 != 0) with hb | hb
                      · replace H := M.ite_t hb H
                        have hE := hE.reb 136 (x122_31.2.2.2 != 0) true hb rfl
                        refine t_off rfl hE rfl rfl rfl (fun a ea => ?_)
                        have hE := Env.put_some hE rfl ea; clear ea
                        refine t_off rfl hE rfl rfl rfl (fun a ea => ?_)
                        have hE := Env.put_some hE rfl ea; clear ea
                        refine t_val rfl rfl hE rfl (r_pick_t hE rfl rfl) (fun a hE => ?_)
                        refine t_nil ?_
                        exact hKr _ _ _ (hE.cut (.cons rfl (.cons rfl (.cons rfl (.cons rfl Subs.nil))))) hR H
                      · replace H := M.ite_f hb H
                        have hE := hE.reb 136 (x122_31.2.2.2 != 0) false hb rfl
                        refine t_on rfl hE rfl rfl rfl ?_
                        refine t_val (v := .int .i64 x129_35.2.2.2) rfl rfl hE rfl (r_move hE rfl) (fun a hE => ?_)
                        refine t_on rfl hE rfl rfl rfl ?_
                        refine t_val (v := .bool (x129_35.2.2.2 != 0)) rfl rfl hE rfl (r_bin hE rfl rfl g_int b_neq) (fun a hE => ?_)
                        refine t_val rfl rfl hE rfl (r_pick_f hE rfl rfl) (fun a hE => ?_)
                        refine t_nil ?_
                        exact hKr _ _ _ (hE.cut (.cons rfl (.cons rfl (.cons rfl (.cons rfl Subs.nil))))) hR H
                    · intro x139_38 a w hE hR H
                      refine t_val (v := .bool x139_38) rfl rfl hE rfl (r_move hE rfl) (fun a hE => ?_)
                      refine t_grp (n := (⟨149, []⟩ : Frm)) (w0 := w0) 5 (fun x145_39 : Bool => [(14, (x14_18 : Sl).v), (20, .pointer (some x20_32)), (145, .bool x145_39)]) (M.unbind H) (fun Kr hKr H => ?_) ?_
                      · rcases bool_em x139_38 with hb | hb
                        · replace H := M.ite_t hb H
                          have hE := hE.reb 140 x139_38 true hb rfl
                          refine t_off rfl hE rfl rfl rfl (fun a ea => ?_)
                          have hE := Env.put_some hE rfl ea; clear ea
                          refine t_off rfl hE rfl rfl rfl (fun a ea => ?_)
                          have hE := Env.put_some hE rfl ea; clear ea
                          refine t_off rfl hE rfl rfl rfl (fun a ea => ?_)
                          have hE := Env.put_some hE rfl ea; clear ea
                          refine t_off rfl hE rfl rfl rfl (fun a ea => ?_)
                          have hE := Env.put_some hE rfl ea; clear ea
                          refine t_val rfl rfl hE rfl (r_pick_t hE rfl rfl) (fun a hE => ?_)
                          refine t_nil ?_
                          exact hKr _ _ _ (hE.cut (.cons rfl (.cons rfl (.cons rfl Subs.nil)))) hR H
                        · replace H := M.ite_f hb H
                          have hE := hE.reb 140 x139_38 false hb rfl
                          refine t_on rfl hE rfl rfl rfl ?_
                          obtain ⟨x141_40, qx141_40, H⟩ := H
                          refine t_val (v := (x141_40 : Sl).v) rfl rfl hE rfl (r_load hE rfl sc22 qx141_40) (fun a hE => ?_)
                          refine t_on rfl hE rfl rfl rfl ?_
                          refine t_val (v := (x129_35.2.2.1 : Sl).v) rfl rfl hE rfl (r_move hE rfl) (fun a hE => ?_)
                          refine t_on rfl hE rfl rfl rfl ?_
                          refine t_call hE hR cl_rambleref06_Same rfl (S_rambleref06_Same x141_40 x129_35.2.2.1) (M.unbind H) (fun x143_41 a w ea hR H => ?_)
                          have hE := Env.put_some hE rfl ea; clear ea
                          refine t_on rfl hE rfl rfl rfl ?_
                          refine t_val (v := .bool (!x143_41)) rfl rfl hE rfl (r_un hE rfl u_not) (fun a hE => ?_)
                          refine t_val rfl rfl hE rfl (r_pick_f hE rfl rfl) (fun a hE => ?_)
                          refine t_nil ?_
                          exact hKr _ _ _ (hE.cut (.cons rfl (.cons rfl (.cons rfl Subs.nil)))) hR H
                      · intro x145_39 a w hE hR H
                        refine t_nil ?_
                        refine hK_37 _ _ ?_
                        refine w_cond x145_39 hE rfl (fun hb => ?_) (fun hb => ?_)
                        · replace H := M.ite_t hb H
                          refine w_seq (fun K hK_42 => ?_)
                          refine t_region ?_
                          refine t_val (v := .bool false) rfl rfl hE rfl (r_assign hE rfl) (fun a hE => ?_)
                          refine t_nil ?_
                          refine hK_42 _ _ ?_
                          refine w_ret ?_
                          exact hret _ _ _ false _ hE hR (res_run hE rfl (RV.tmp rfl RV.nil)) rfl H
                        · replace H := M.ite_f hb H
                          refine w_skip ?_
                          refine hK_36 _ _ ?_
                          refine w_seq (fun K hK_43 => ?_)
                          refine t_region ?_
                          refine t_val (v := (x14_18 : Sl).v) rfl rfl hE rfl (r_move hE rfl) (fun a hE => ?_)
                          refine t_val (v := (Value.func (.func fn_ramblelaw06_WalWhole_1) #[] #[.pointer (some x20_32)])) rfl rfl hE rfl (r_makeFunc hE rfl) (fun a hE => ?_)
                          refine t_call hE hR cl_slices_ContainsFunc_slslslslbyte_slslslbyte rfl (S_slices_ContainsFunc_slslslslbyte_slslslbyte x14_18 (Value.func (.func fn_ramblelaw06_WalWhole_1) #[] #[.pointer (some x20_32)])) (M.unbind H) (fun x148_44 a w ea hR H => ?_)
                          have hE := Env.put_some hE rfl ea; clear ea
                          refine t_val (v := .bool x148_44) rfl rfl hE rfl (r_assign hE rfl) (fun a hE => ?_)
                          refine t_nil ?_
                          refine hK_43 _ _ ?_
                          refine w_ret ?_
                          exact hret _ _ _ x148_44 _ hE hR (res_run hE rfl (RV.tmp rfl RV.nil)) rfl H
            · skip
              refine w_seq (fun K hK_45 => ?_)
              refine t_region ?_
              refine t_val (v := (x0 : Sl).v) rfl rfl hE rfl (r_move hE rfl) (fun a hE => ?_)
              refine t_val (v := .int .i64 (x0.len : Int)) rfl rfl hE rfl (r_len hE rfl 74 un71) (fun a hE => ?_)
              refine t_val (v := .int .i64 0) rfl rfl hE rfl (r_move hE rfl) (fun a hE => ?_)
              refine t_nil ?_
              refine hK_45 _ _ ?_
              refine w_block ?_
              refine l_loop (fun (s : Sl × Sl × Int) => (⟨149, []⟩ : Frm)) (fun (s : Sl × Sl × Int) => [(2, .int .i64 x2), (3, (x3 : Sl).v), (9, .pointer x25_3.1), (11, .pointer x30_5.1), (13, (s.1 : Sl).v), (14, (s.2.1 : Sl).v), (55, (x0 : Sl).v), (56, .int .i64 (x0.len : Int)), (57, .int .i64 s.2.2)]) H (hE.cut (.cons rfl (.cons rfl (.cons rfl (.cons rfl (.cons rfl (.cons rfl (.cons rfl (.cons rfl (.cons rfl Subs.nil)))))))))) hR (fun Y self1 hY_55 s a w hE hR H => ?_)
              rcases s with ⟨x13_46, x14_47, x57_48⟩
              replace hE : Env (⟨149, []⟩ : Frm) a [(2, .int .i64 x2), (3, (x3 : Sl).v), (9, .pointer x25_3.1), (11, .pointer x30_5.1), (13, (x13_46 : Sl).v), (14, (x14_47 : Sl).v), (55, (x0 : Sl).v), (56, .int .i64 (x0.len : Int)), (57, .int .i64 x57_48)] := hE
              replace H : (ramblelaw06_WalWhole_l1 x2 x3 x25_3.1 x30_5.1 x0 (x0.len : Int) self1 (x13_46, x14_47, x57_48)).wp w.heap Q := H
              unfold ramblelaw06_WalWhole_l1 at H
              refine w_seq (fun K hK_56 => ?_)
              refine t_region ?_
              refine t_val (v := .bool (decide (x57_48 < (x0.len : Int)))) rfl rfl hE rfl (r_bin hE rfl rfl g_int b_lss) (fun a hE => ?_)
              refine t_nil ?_
              refine hK_56 _ _ ?_
              refine w_seq (fun K hK_57 => ?_)
              refine w_cond (decide (x57_48 < (x0.len : Int))) hE rfl (fun hb => ?_) (fun hb => ?_)
              · replace H := M.ite_t hb H
                refine w_skip ?_
                refine hK_57 _ _ ?_
                refine w_seq_join (fun a w => ∃ (x13_58 : Sl), ∃ (x14_59 : Sl), Env (⟨149, []⟩ : Frm) a [(2, .int .i64 x2), (3, (x3 : Sl).v), (9, .pointer x25_3.1), (11, .pointer x30_5.1), (55, (x0 : Sl).v), (56, .int .i64 (x0.len : Int)), (57, .int .i64 x57_48), (13, (x13_58 : Sl).v), (14, (x14_59 : Sl).v)] ∧ Rest w0 w ∧ (ramblelaw06_WalWhole_j2 self1 x57_48 x13_58 x14_59).wp w.heap Q) ?_ ?_
                · rintro a w ⟨x13_58, x14_59, hE, hR, H⟩
                  unfold ramblelaw06_WalWhole_j2 at H
                  refine t_region ?_
                  refine t_val (v := .int .i64 (IntKind.wrap .i64 (x57_48 + 1))) rfl rfl hE rfl (r_bin hE rfl rfl g_int b_add) (fun a hE => ?_)
                  refine t_val (v := .int .i64 (IntKind.wrap .i64 (x57_48 + 1))) rfl rfl hE rfl (r_move hE rfl) (fun a hE => ?_)
                  refine t_nil ?_
                  exact hY_55 (x13_58, x14_59, IntKind.wrap .i64 (x57_48 + 1)) _ _ (hE.cut (.cons rfl (.cons rfl (.cons rfl (.cons rfl (.cons rfl (.cons rfl (.cons rfl (.cons rfl (.cons rfl Subs.nil)))))))))) hR H
                · skip
                  refine w_block ?_
                  refine w_seq (fun K hK_67 => ?_)
                  refine t_region ?_
                  obtain ⟨x59_68, qx59_68, H⟩ := H
                  refine t_val (v := .pointer (some x59_68)) rfl rfl hE rfl (r_indexAddrL hE rfl rfl un71 sz74 qx59_68) (fun a hE => ?_)
                  obtain ⟨x60_69, qx60_69, H⟩ := H
                  refine t_val (v := .agg x60_69) rfl rfl hE rfl (r_loadG hE rfl ag74 qx60_69) (fun a hE => ?_)
                  obtain ⟨x16_70, qx16_70, H⟩ := H
                  refine t_valh (v := .pointer (some x16_70)) rfl rfl hE rfl hR (r_alloc zr74 qx16_70) (fun a w hE hR hh => ?_)
                  replace H := M.at hh H; clear hh
                  obtain ⟨qz, H⟩ := H
                  obtain ⟨u_71, qu_71, H⟩ := H
                  refine t_sth rfl rfl hE hR (r_storeG hE rfl rfl sz74 qz qu_71) (fun a w hE hR hh => ?_)
                  replace H := M.at hh H; clear hh
                  refine t_nil ?_
                  refine hK_67 _ _ ?_
                  refine w_seq (fun K hK_72 => ?_)
                  refine w_seq (fun K hK_73 => ?_)
                  refine t_region ?_
                  refine t_val (v := .pointer x25_3.1) rfl rfl hE rfl (r_move hE rfl) (fun a hE => ?_)
                  refine t_call hE hR cl_disk_Disk_Down rfl (S_disk_Disk_Down x25_3.1) (M.unbind H) (fun x62_74 a w ea hR H => ?_)
                  have hE := Env.put_some hE rfl ea; clear ea
                  refine t_nil ?_
                  refine hK_73 _ _ ?_
                  refine w_cond x62_74 hE rfl (fun hb => ?_) (fun hb => ?_)
                  · replace H := M.ite_t hb H
                    refine w_exit ?_
                    refine Xu.ne rfl ?_
                    refine Xu.same ?_
                    exact ⟨x14_47, hE.cut (.cons rfl (.cons rfl (.cons rfl (.cons rfl Subs.nil)))), hR, H⟩
                  · replace H := M.ite_f hb H
                    refine w_skip ?_
                    refine hK_72 _ _ ?_
                    refine w_seq (fun K hK_75 => ?_)
                    refine t_region ?_
                    refine t_val (v := (x13_46 : Sl).v) rfl rfl hE rfl (r_move hE rfl) (fun a hE => ?_)
                    obtain ⟨x64_76, qx64_76, H⟩ := H
                    refine t_valh (v := (x64_76 : Sl).v) rfl rfl hE rfl hR (r_buildL (cells := #[(x13_46 : Sl).v]) hE rfl un72 sz22 zr22 rfl rfl qx64_76) (fun a w hE hR hh => ?_)
                    replace H := M.at hh H; clear hh
                    refine t_val (v := (x64_76 : Sl).v) rfl rfl hE rfl (r_assign hE rfl) (fun a hE => ?_)
                    refine t_nil ?_
                    refine hK_75 _ _ ?_
                    refine w_seq (fun K hK_77 => ?_)
                    refine t_region ?_
                    refine t_val (v := .pointer (some ((x16_70).add 0))) rfl rfl hE rfl (r_fieldAddr hE rfl fd74_0) (fun a hE => ?_)
                    obtain ⟨x66_78, qx66_78, H⟩ := H
                    refine t_val (v := .int .i64 x66_78) rfl rfl hE rfl (r_load hE rfl sc3 qx66_78) (fun a hE => ?_)
                    refine t_nil ?_
                    refine hK_77 _ _ ?_
                    refine w_block ?_
                    refine w_seq (fun K hK_79 => ?_)
                    refine t_region ?_
                    refine t_val (v := .bool (x66_78 == 0)) rfl rfl hE rfl (r_bin hE rfl rfl g_int b_eql) (fun a hE => ?_)
                    refine t_val (v := .bool (x66_78 == 0)) rfl rfl hE rfl (r_assign hE rfl) (fun a hE => ?_)
                    refine t_nil ?_
                    refine hK_79 _ _ ?_
                    refine w_cond (x66_78 == 0) hE rfl (fun hb => ?_) (fun hb => ?_)
                    · replace H := M.ite_t hb H
                      refine w_seq (fun K hK_80 => ?_)
                      obtain ⟨x72_81, qx72_81, H⟩ := H
                      have hT := tab_of tb8_14 rfl rfl
                      refine d_start (fun w : World => (fun h : Heap => (hcell h ((x16_70).add 1) = some ((x72_81 : Sl).v))) w.heap) [4, 5, 6] #[false, false, false, false, false, false, false] mo hR rfl rfl (fun w' e => by rw [e]; exact qx72_81) (fun w hh hR hs => ?_)
                      replace H := M.at hh H; clear hh
                      refine d_pureg (i := 0) (v := (x13_46 : Sl).v) #[true, false, false, false, false, false, false] rfl rfl hT (by kernel_rfl) hE rfl (wanted_none rfl) (fun w => r_move hE rfl) (fun a hE => ?_)
                      refine d_pureg (i := 2) (v := .pointer (some ((x16_70).add 1))) #[true, false, true, false, false, false, false] rfl rfl hT (by kernel_rfl) hE rfl (wanted_none rfl) (fun w => r_fieldAddr hE rfl fd74_1) (fun a hE => ?_)
                      refine d_read (i := 3) (v := (x72_81 : Sl).v) #[true, false, true, true, false, false, false] rfl rfl hT (by kernel_rfl) hE rfl (wanted_none rfl) hs (fun w s => r_load hE rfl sc32 s) (fun a hE => ?_)
                      refine d_join (n := (⟨149, []⟩ : Frm)) (w0 := w0) (fun y_86 : Sl × Sl => [(2, .int .i64 x2), (3, (x3 : Sl).v), (9, .pointer x25_3.1), (11, .pointer x30_5.1), (55, (x0 : Sl).v), (56, .int .i64 (x0.len : Int)), (13, (x13_46 : Sl).v), (14, (x64_76 : Sl).v), (57, .int .i64 x57_48), (58, .bool (decide (x57_48 < (x0.len : Int)))), (59, .pointer (some x59_68)), (60, .agg x60_69), (16, .pointer (some x16_70)), (61, .pointer x25_3.1), (62, .bool x62_74), (63, (x13_46 : Sl).v), (64, (x64_76 : Sl).v), (65, .pointer (some ((x16_70).add 0))), (66, .int .i64 x66_78), (68, .bool (x66_78 == 0)), (67, .bool (x66_78 == 0)), (69, (x13_46 : Sl).v), (71, .pointer (some ((x16_70).add 1))), (72, (x72_81 : Sl).v), (70, (y_86.1 : Sl).v), (73, (y_86.2 : Sl).v)]) 2 #[true, true, true, true, true, false, false] (M.unbind H) ?_ ?_
                      · intro y_86 a w hE hR H
                        refine d_exl (i := 5) (fun x74_87 => (x74_87 : Sl).v) #[true, true, true, true, true, true, false] rfl rfl hT (by kernel_rfl) rfl hR (wanted_none rfl) (M.unbind H) (fun Q H => ap_run hE rfl rfl ap22 H) (fun x74_87 a w ea hR H => ?_)
                        have hE := Env.put_some hE rfl ea; clear ea
                        refine d_pureg (i := 6) (v := (x74_87 : Sl).v) #[true, true, true, true, true, true, true] rfl rfl hT (by kernel_rfl) hE rfl (wanted_none rfl) (fun w => r_assign hE rfl) (fun a hE => ?_)
                        refine d_done hT (by kernel_rfl) ?_
                        refine hK_80 _ _ ?_
                        refine w_seq (fun K hK_88 => ?_)
                        refine t_region ?_
                        refine t_val (v := .pointer x30_5.1) rfl rfl hE rfl (r_move hE rfl) (fun a hE => ?_)
                        refine t_val (v := .pointer (some ((x16_70).add 1))) rfl rfl hE rfl (r_fieldAddr hE rfl fd74_1) (fun a hE => ?_)
                        obtain ⟨x77_89, qx77_89, H⟩ := H
                        refine t_val (v := (x77_89 : Sl).v) rfl rfl hE rfl (r_load hE rfl sc32 qx77_89) (fun a hE => ?_)
                        refine t_call hE hR cl_wal_Log_Append rfl (S_wal_Log_Append x30_5.1 x77_89) (M.unbind H) (fun x78_90 a w ea hR H => ?_)
                        have hE := Env.put_some hE rfl ea; clear ea
                        refine t_nil ?_
                        refine hK_88 _ _ ?_
                        refine w_block ?_
                        refine w_seq (fun K hK_91 => ?_)
                        refine t_region ?_
                        refine t_val (v := .bool (x78_90 == 0)) rfl rfl hE rfl (r_bin hE rfl rfl g_int b_eql) (fun a hE => ?_)
                        refine t_val (v := .bool (x78_90 == 0)) rfl rfl hE rfl (r_assign hE rfl) (fun a hE => ?_)
                        refine t_nil ?_
                        refine hK_91 _ _ ?_
                        refine w_cond (x78_90 == 0) hE rfl (fun hb => ?_) (fun hb => ?_)
                        · replace H := M.ite_t hb H
                          refine t_region ?_
                          refine t_val (v := (x74_87 : Sl).v) rfl rfl hE rfl (r_move hE rfl) (fun a hE => ?_)
                          refine t_val (v := (x74_87 : Sl).v) rfl rfl hE rfl (r_move hE rfl) (fun a hE => ?_)
                          obtain ⟨x83_92, qx83_92, H⟩ := H
                          refine t_valh (v := (x83_92 : Sl).v) rfl rfl hE rfl hR (r_buildL (cells := #[(x74_87 : Sl).v]) hE rfl un72 sz22 zr22 rfl rfl qx83_92) (fun a w hE hR hh => ?_)
                          replace H := M.at hh H; clear hh
                          refine t_val (v := (x74_87 : Sl).v) rfl rfl hE rfl (r_assign hE rfl) (fun a hE => ?_)
                          refine t_val (v := (x83_92 : Sl).v) rfl rfl hE rfl (r_assign hE rfl) (fun a hE => ?_)
                          refine t_nil ?_
                          exact ⟨x74_87, x83_92, hE.cut (.cons rfl (.cons rfl (.cons rfl (.cons rfl (.cons rfl (.cons rfl (.cons rfl (.cons rfl (.cons rfl Subs.nil))))))))), hR, H⟩
                        · replace H := M.ite_f hb H
                          refine w_seq (fun K hK_93 => ?_)
                          refine t_region ?_
                          refine t_val (v := .bool (x78_90 == 9)) rfl rfl hE rfl (r_bin hE rfl rfl g_int b_eql) (fun a hE => ?_)
                          refine t_val (v := .bool (x78_90 == 9)) rfl rfl hE rfl (r_assign hE rfl) (fun a hE => ?_)
                          refine t_nil ?_
                          refine hK_93 _ _ ?_
                          refine w_cond (x78_90 == 9) hE rfl (fun hb => ?_) (fun hb => ?_)
                          · replace H := M.ite_t hb H
                            refine t_region ?_
                            refine t_val (v := (x64_76 : Sl).v) rfl rfl hE rfl (r_move hE rfl) (fun a hE => ?_)
                            refine t_val (v := (x74_87 : Sl).v) rfl rfl hE rfl (r_move hE rfl) (fun a hE => ?_)
                            obtain ⟨x88_94, qx88_94, H⟩ := H
                            refine t_valh (v := (x88_94 : Sl).v) rfl rfl hE rfl hR (r_buildL (cells := #[(x74_87 : Sl).v]) hE rfl un72 sz22 zr22 rfl rfl qx88_94) (fun a w hE hR hh => ?_)
                            replace H := M.at hh H; clear hh
                            refine t_ex (fun x89_95 => (x89_95 : Sl).v) rfl rfl hR (M.unbind H) (fun Q H => ap_run hE rfl rfl ap72 H) (fun x89_95 a w ea hR H => ?_)
                            have hE := Env.put_some hE rfl ea; clear ea
                            refine t_val (v := (x89_95 : Sl).v) rfl rfl hE rfl (r_assign hE rfl) (fun a hE => ?_)
                            refine t_nil ?_
                            exact ⟨x13_46, x89_95, hE.cut (.cons rfl (.cons rfl (.cons rfl (.cons rfl (.cons rfl (.cons rfl (.cons rfl (.cons rfl (.cons rfl Subs.nil))))))))), hR, H⟩
                          · replace H := M.ite_f hb H
                            refine w_skip ?_
                            exact ⟨x13_46, x64_76, hE.cut (.cons rfl (.cons rfl (.cons rfl (.cons rfl (.cons rfl (.cons rfl (.cons rfl (.cons rfl (.cons rfl Subs.nil))))))))), hR, H⟩
                      · intro hj H
                        refine d_pick [1, 4] hT (by kernel_rfl) rfl (fun i hi => ?_)
                        simp only [List.mem_cons, List.not_mem_nil, or_false] at hi
                        rcases hi with rfl | rfl
                        · replace H := H.1
                          refine p_call (S := fun w : World => (fun h : Heap => (hcell h ((x16_70).add 1) = some ((x72_81 : Sl).v))) w.heap) (i := 1) #[true, true, true, true, false, false, false] rfl rfl rfl (by kernel_rfl) hE hR (wanted_none rfl) cl_slices_Clone_slslslbyte_slslbyte rfl (S_slices_Clone_slslslbyte_slslbyte x13_46) (M.unbind H) (fun r h H w' e => by obtain ⟨_, sA, H⟩ := H; rw [e]; exact sA) (fun x70_82 a w ea hR H hs => ?_)
                          obtain ⟨_, sA, H⟩ := H; clear sA
                          have hE := Env.put_some hE rfl ea; clear ea
                          obtain ⟨x73_83, qx73_83, H⟩ := H
                          refine d_lasth (i := 4) (v := (x73_83 : Sl).v) #[true, true, true, true, true, false, false] rfl rfl hT (by kernel_rfl) rfl hE hR rfl (wanted_none rfl) (r_buildL (cells := #[(x72_81 : Sl).v]) hE rfl un22 sz32 zr32 rfl rfl qx73_83)  (fun a w hE hR hh => ?_)
                          replace H := M.at hh H; clear hh
                          exact hj _ _ _ (hE.cut (.cons rfl (.cons rfl (.cons rfl (.cons rfl (.cons rfl (.cons rfl (.cons rfl (.cons rfl (.cons rfl (.cons rfl (.cons rfl (.cons rfl (.cons rfl (.cons rfl (.cons rfl (.cons rfl (.cons rfl (.cons rfl (.cons rfl (.cons rfl (.cons rfl (.cons rfl (.cons rfl (.cons rfl (.cons rfl (.cons rfl Subs.nil))))))))))))))))))))))))))) hR H
                        · replace H := H.2
                          obtain ⟨x73_84, qx73_84, H⟩ := H
                          obtain ⟨_, sA, H⟩ := H
                          refine p_valh (S := fun w : World => (fun h : Heap => (hcell h ((x16_70).add 1) = some ((x72_81 : Sl).v))) w.heap) (i := 4) (v := (x73_84 : Sl).v) #[true, false, true, true, true, false, false] rfl rfl (by kernel_rfl) hE hR rfl (wanted_none rfl) (r_buildL (cells := #[(x72_81 : Sl).v]) hE rfl un22 sz32 zr32 rfl rfl qx73_84)  (fun w' e => by rw [e]; exact sA) (fun a w hE hR hh hs => ?_)
                          replace H := M.at hh H; clear hh
                          refine d_call (i := 1) #[true, true, true, true, true, false, false] rfl rfl rfl hT (by kernel_rfl) rfl hE hR (wanted_none rfl) cl_slices_Clone_slslslbyte_slslbyte rfl (S_slices_Clone_slslslbyte_slslbyte x13_46) (M.unbind H) (fun r h H w' e => by obtain ⟨_, sA, H⟩ := H; rw [e]; exact sA) (fun x70_85 a w ea hR H hs => ?_)
                          obtain ⟨_, sA, H⟩ := H; clear sA
                          have hE := Env.put_some hE rfl ea; clear ea
                          exact hj _ _ _ (hE.cut (.cons rfl (.cons rfl (.cons rfl (.cons rfl (.cons rfl (.cons rfl (.cons rfl (.cons rfl (.cons rfl (.cons rfl (.cons rfl (.cons rfl (.cons rfl (.cons rfl (.cons rfl (.cons rfl (.cons rfl (.cons rfl (.cons rfl (.cons rfl (.cons rfl (.cons rfl (.cons rfl (.cons rfl (.cons rfl (.cons rfl Subs.nil))))))))))))))))))))))))))) hR H
                    · replace H := M.ite_f hb H
                      refine w_seq (fun K hK_96 => ?_)
                      refine t_region ?_
                      refine t_val (v := .bool (x66_78 == 1)) rfl rfl hE rfl (r_bin hE rfl rfl g_int b_eql) (fun a hE => ?_)
                      refine t_val (v := .bool (x66_78 == 1)) rfl rfl hE rfl (r_assign hE rfl) (fun a hE => ?_)
                      refine t_nil ?_
                      refine hK_96 _ _ ?_
                      refine w_cond (x66_78 == 1) hE rfl (fun hb => ?_) (fun hb => ?_)
                      · replace H := M.ite_t hb H
                        refine w_seq (fun K hK_97 => ?_)
                        refine t_region ?_
                        refine t_val (v := .pointer x30_5.1) rfl rfl hE rfl (r_move hE rfl) (fun a hE => ?_)
                        refine t_call hE hR cl_wal_Log_Reset rfl (S_wal_Log_Reset x30_5.1) (M.unbind H) (fun x93_98 a w ea hR H => ?_)
                        have hE := Env.put_some hE rfl ea; clear ea
                        refine t_nil ?_
                        refine hK_97 _ _ ?_
                        refine w_block ?_
                        refine w_seq (fun K hK_99 => ?_)
                        refine t_region ?_
                        refine t_val (v := .bool (x93_98 == 0)) rfl rfl hE rfl (r_bin hE rfl rfl g_int b_eql) (fun a hE => ?_)
                        refine t_val (v := .bool (x93_98 == 0)) rfl rfl hE rfl (r_assign hE rfl) (fun a hE => ?_)
                        refine t_nil ?_
                        refine hK_99 _ _ ?_
                        refine w_cond (x93_98 == 0) hE rfl (fun hb => ?_) (fun hb => ?_)
                        · replace H := M.ite_t hb H
                          refine t_region ?_
                          obtain ⟨x96_100, qx96_100, H⟩ := H
                          refine t_valh (v := (x96_100 : Sl).v) rfl rfl hE rfl hR (r_buildL (cells := #[(Sl.nil : Sl).v]) hE rfl un72 sz22 zr22 rfl rfl qx96_100) (fun a w hE hR hh => ?_)
                          replace H := M.at hh H; clear hh
                          refine t_val (v := (Sl.nil : Sl).v) rfl rfl hE rfl (r_assign hE rfl) (fun a hE => ?_)
                          refine t_val (v := (x96_100 : Sl).v) rfl rfl hE rfl (r_assign hE rfl) (fun a hE => ?_)
                          refine t_nil ?_
                          exact ⟨Sl.nil, x96_100, hE.cut (.cons rfl (.cons rfl (.cons rfl (.cons rfl (.cons rfl (.cons rfl (.cons rfl (.cons rfl (.cons rfl Subs.nil))))))))), hR, H⟩
                        · replace H := M.ite_f hb H
                          refine w_seq (fun K hK_101 => ?_)
                          refine t_region ?_
                          refine t_val (v := .bool (x93_98 == 9)) rfl rfl hE rfl (r_bin hE rfl rfl g_int b_eql) (fun a hE => ?_)
                          refine t_val (v := .bool (x93_98 == 9)) rfl rfl hE rfl (r_assign hE rfl) (fun a hE => ?_)
                          refine t_nil ?_
                          refine hK_101 _ _ ?_
                          refine w_cond (x93_98 == 9) hE rfl (fun hb => ?_) (fun hb => ?_)
                          · replace H := M.ite_t hb H
                            refine t_region ?_
                            refine t_val (v := (x64_76 : Sl).v) rfl rfl hE rfl (r_move hE rfl) (fun a hE => ?_)
                            obtain ⟨x100_102, qx100_102, H⟩ := H
                            refine t_valh (v := (x100_102 : Sl).v) rfl rfl hE rfl hR (r_buildL (cells := #[(Sl.nil : Sl).v]) hE rfl un72 sz22 zr22 rfl rfl qx100_102) (fun a w hE hR hh => ?_)
                            replace H := M.at hh H; clear hh
                            refine t_ex (fun x101_103 => (x101_103 : Sl).v) rfl rfl hR (M.unbind H) (fun Q H => ap_run hE rfl rfl ap72 H) (fun x101_103 a w ea hR H => ?_)
                            have hE := Env.put_some hE rfl ea; clear ea
                            refine t_val (v := (x101_103 : Sl).v) rfl rfl hE rfl (r_assign hE rfl) (fun a hE => ?_)
                            refine t_nil ?_
                            exact ⟨x13_46, x101_103, hE.cut (.cons rfl (.cons rfl (.cons rfl (.cons rfl (.cons rfl (.cons rfl (.cons rfl (.cons rfl (.cons rfl Subs.nil))))))))), hR, H⟩
                          · replace H := M.ite_f hb H
                            refine w_skip ?_
                            exact ⟨x13_46, x64_76, hE.cut (.cons rfl (.cons rfl (.cons rfl (.cons rfl (.cons rfl (.cons rfl (.cons rfl (.cons rfl (.cons rfl Subs.nil))))))))), hR, H⟩
                      · replace H := M.ite_f hb H
                        refine w_skip ?_
                        exact ⟨x13_46, x64_76, hE.cut (.cons rfl (.cons rfl (.cons rfl (.cons rfl (.cons rfl (.cons rfl (.cons rfl (.cons rfl (.cons rfl Subs.nil))))))))), hR, H⟩
              · replace H := M.ite_f hb H
                refine w_exit ?_
                refine Xu.same ?_
                exact ⟨x14_47, hE.cut (.cons rfl (.cons rfl (.cons rfl (.cons rfl Subs.nil)))), hR, H⟩

end Gx
