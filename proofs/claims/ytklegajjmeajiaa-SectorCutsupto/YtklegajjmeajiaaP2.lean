/- Printed by program: Go functions as Lean programs, each tied to its code. No condition. -/
import Derived.Test.YtklegajjmeajiaaP0
import Derived.Test.YtklegajjmeajiaaP1
import Derived.Test.YtklegajjmeajiaaProg
import Derived.KernelRfl
set_option linter.unusedVariables false
set_option linter.unusedSimpArgs false
namespace Gx
open Go
abbrev fn_bytes_Equal : Nat := 19
abbrev fn_slices_Chunk_byte_byte_1 : Nat := 49
abbrev ty_api_Frame : Nat := 24
abbrev ty_api_Sector : Nat := 26
abbrev ty_int : Nat := 3
abbrev ty_sl_sl_uint8 : Nat := 38
abbrev ty_sl_uint8 : Nat := 22
abbrev ty_uint8 : Nat := 5
theorem mo : Go.Proofs.Try.prog.follows .mixedOrders = true := by kernel_rfl
theorem un2 : Go.Proofs.Try.prog.underlying 2 = some (.int .i64) := by kernel_rfl
theorem un22 : Go.Proofs.Try.prog.underlying 22 = some (.slice 5) := by kernel_rfl
theorem un26 : Go.Proofs.Try.prog.underlying 26 = some (.array 128 5) := by kernel_rfl
theorem un3 : Go.Proofs.Try.prog.underlying 3 = some (.int .i64) := by kernel_rfl
theorem un34 : Go.Proofs.Try.prog.underlying 34 = some (.int .u32) := by kernel_rfl
theorem un38 : Go.Proofs.Try.prog.underlying 38 = some (.slice 22) := by kernel_rfl
theorem un5 : Go.Proofs.Try.prog.underlying 5 = some (.int .u8) := by kernel_rfl
theorem un67 : Go.Proofs.Try.prog.underlying 67 = some (.int .u64) := by kernel_rfl
theorem un9 : Go.Proofs.Try.prog.underlying 9 = some (.string) := by kernel_rfl
theorem zr22 : ((Go.Proofs.Try.prog.info? 22).bind (·.zero)) = some (.slice none 0 0) := by kernel_rfl
theorem zr24 : ((Go.Proofs.Try.prog.info? 24).bind (·.zero)) = some (.agg (#[.int .i64 0, .int .i64 0, .slice none 0 0] : Array Value)) := by kernel_rfl
theorem zr26 : ((Go.Proofs.Try.prog.info? 26).bind (·.zero)) = some (.agg (Array.replicate 128 (.int .u8 0) : Array Value)) := by kernel_rfl
theorem zr5 : ((Go.Proofs.Try.prog.info? 5).bind (·.zero)) = some (.int .u8 0) := by kernel_rfl
theorem ag24 : agB Go.Proofs.Try.prog 24 3 = true := by kernel_rfl
theorem ag26 : agB Go.Proofs.Try.prog 26 128 = true := by kernel_rfl
theorem ap22 : apB Go.Proofs.Try.prog 22 5 1 1 (#[.int .u8 0] : Array Value) := ⟨un22, ap_info (by kernel_rfl)⟩
theorem ap38 : apB Go.Proofs.Try.prog 38 22 1 24 (#[.slice none 0 0] : Array Value) := ⟨un38, ap_info (by kernel_rfl)⟩
theorem bd24 : ∀ w, (Instr.build 24 #[]).run Go.Proofs.Try.prog w = .ok (.agg (#[.int .i64 0, .int .i64 0, .slice none 0 0] : Array Value)) w := fun w => by kernel_rfl
theorem bd26 : ∀ w, (Instr.build 26 #[]).run Go.Proofs.Try.prog w = .ok (.agg (Array.replicate 128 (.int .u8 0) : Array Value)) w := fun w => by kernel_rfl
theorem cl_bytes_Equal : Callee? Go.Proofs.Try.prog 19 := callee_of Go.Proofs.Try.func19 (by kernel_rfl) rfl
theorem cl_ramblelaw05_begun : Callee? Go.Proofs.Try.prog 12 := callee_of Go.Proofs.Try.func12 (by kernel_rfl) rfl
theorem cl_rambleref05_Cut : Callee? Go.Proofs.Try.prog 17 := callee_of Go.Proofs.Try.func17 (by kernel_rfl) rfl
theorem cl_rambleref05_Join : Callee? Go.Proofs.Try.prog 21 := callee_of Go.Proofs.Try.func21 (by kernel_rfl) rfl
theorem cl_rambleref05_Same : Callee? Go.Proofs.Try.prog 13 := callee_of Go.Proofs.Try.func13 (by kernel_rfl) rfl
theorem cl_rambleref05_Seal : Callee? Go.Proofs.Try.prog 9 := callee_of Go.Proofs.Try.func9 (by kernel_rfl) rfl
theorem cl_rambleref05_Sum : Callee? Go.Proofs.Try.prog 15 := callee_of Go.Proofs.Try.func15 (by kernel_rfl) rfl
theorem cl_sector_Cut : Callee? Go.Proofs.Try.prog 16 := callee_of Go.Proofs.Try.func16 (by kernel_rfl) rfl
theorem cl_sector_Join : Callee? Go.Proofs.Try.prog 20 := callee_of Go.Proofs.Try.func20 (by kernel_rfl) rfl
theorem cl_sector_Open : Callee? Go.Proofs.Try.prog 10 := callee_of Go.Proofs.Try.func10 (by kernel_rfl) rfl
theorem cl_sector_Seal : Callee? Go.Proofs.Try.prog 8 := callee_of Go.Proofs.Try.func8 (by kernel_rfl) rfl
theorem cl_sector_Sum : Callee? Go.Proofs.Try.prog 14 := callee_of Go.Proofs.Try.func14 (by kernel_rfl) rfl
theorem cl_sector_big : Callee? Go.Proofs.Try.prog 34 := callee_of Go.Proofs.Try.func34 (by kernel_rfl) rfl
theorem cl_slices_AppendSeq_byte_byte : Callee? Go.Proofs.Try.prog 48 := callee_of Go.Proofs.Try.func48 (by kernel_rfl) rfl
theorem cl_slices_Chunk_byte_byte : Callee? Go.Proofs.Try.prog 37 := callee_of Go.Proofs.Try.func37 (by kernel_rfl) rfl
theorem cl_slices_Chunk_byte_byte_1 : Callee? Go.Proofs.Try.prog 49 := callee_of Go.Proofs.Try.func49 (by kernel_rfl) rfl
theorem cl_slices_Clone_byte_byte : Callee? Go.Proofs.Try.prog 35 := callee_of Go.Proofs.Try.func35 (by kernel_rfl) rfl
theorem cl_slices_Collect_byte : Callee? Go.Proofs.Try.prog 36 := callee_of Go.Proofs.Try.func36 (by kernel_rfl) rfl
theorem cl_slices_Concat_byte_byte : Callee? Go.Proofs.Try.prog 38 := callee_of Go.Proofs.Try.func38 (by kernel_rfl) rfl
theorem cl_slices_EqualFunc_byte_byte_byte_byte : Callee? Go.Proofs.Try.prog 18 := callee_of Go.Proofs.Try.func18 (by kernel_rfl) rfl
theorem cl_slices_Grow_byte_byte : Callee? Go.Proofs.Try.prog 50 := callee_of Go.Proofs.Try.func50 (by kernel_rfl) rfl
theorem eg26 : Go.Proofs.Try.prog.eqGuardType Go.Proofs.Try.prog.depth 26 = false := by kernel_rfl
theorem fd24_0 : fdOff Go.Proofs.Try.prog 24 0 = some 0 := by kernel_rfl
theorem fd24_1 : fdOff Go.Proofs.Try.prog 24 1 = some 1 := by kernel_rfl
theorem fd24_2 : fdOff Go.Proofs.Try.prog 24 2 = some 2 := by kernel_rfl
theorem pl24 : placesOf Go.Proofs.Try.prog 24 = some [(0, 1), (1, 1), (2, 1)] := by kernel_rfl
theorem sc2 : scB Go.Proofs.Try.prog 2 = true := by kernel_rfl
theorem sc22 : scB Go.Proofs.Try.prog 22 = true := by kernel_rfl
theorem sc3 : scB Go.Proofs.Try.prog 3 = true := by kernel_rfl
theorem sc38 : scB Go.Proofs.Try.prog 38 = true := by kernel_rfl
theorem sc5 : scB Go.Proofs.Try.prog 5 = true := by kernel_rfl
theorem sz2 : szB Go.Proofs.Try.prog 2 1 = true := by kernel_rfl
theorem sz22 : szB Go.Proofs.Try.prog 22 1 = true := by kernel_rfl
theorem sz24 : szB Go.Proofs.Try.prog 24 3 = true := by kernel_rfl
theorem sz26 : szB Go.Proofs.Try.prog 26 128 = true := by kernel_rfl
theorem sz38 : szB Go.Proofs.Try.prog 38 1 = true := by kernel_rfl
theorem sz5 : szB Go.Proofs.Try.prog 5 1 = true := by kernel_rfl
end Gx
namespace Gx
open Go
set_option linter.unusedVariables false
set_option maxRecDepth 100000
/-- ramble/sector.Sum -/
def sector_Sum_j1 (self2 : (Int × Int) → M (Int)) (c17_30 : Int) (x3_26 : Int) : M (Int) := do
  self2 (x3_26, IntKind.wrap .i64 (c17_30 + 1))
def sector_Sum_l2 (self1 : (Int × Int) → M (Int)) (c9_22 : Int) (self2 : (Int × Int) → M (Int)) : (Int × Int) → M (Int) := fun s => match s with
  | (x3_18, x17_19) => do
    M.ite (decide (x17_19 < 8)) (do
      M.ite ((iAnd .u32 x3_18 1) == 1) (do
        sector_Sum_j1 self2 x17_19 (iXor .u32 (iShr .u32 x3_18 1) 3988292384)
        ) (do
        sector_Sum_j1 self2 x17_19 (iShr .u32 x3_18 1)
        )
      ) (do
      self1 (x3_18, IntKind.wrap .i64 (c9_22 + 1))
      )
def sector_Sum_l1 (c7_7 : Sl) (c8_8 : Int) (self1 : (Int × Int) → M (Int)) : (Int × Int) → M (Int) := fun s => match s with
  | (x3_5, x9_6) => do
    M.ite (decide (x9_6 < c8_8)) (do
      let x11_14 ← ixL c7_7 x9_6 1
      let x12_15 ← ldI .u8 x11_14
      M.loop (sector_Sum_l2 self1 x9_6) (iXor .u32 x3_5 (IntKind.wrap .u32 x12_15), 0)
      ) (do
      M.pure (iNot .u32 x3_5)
      )
def sector_Sum (x0 : Sl) : M (Int) := do
  M.loop (sector_Sum_l1 x0 (x0.len : Int)) (4294967295, 0)
theorem S_sector_Sum (x0 : Sl) : Sound Go.Proofs.Try.prog 14 #[(x0 : Sl).v] (fun (r : Int) => .int .u32 r) (sector_Sum x0) := by
  refine sound_of [(0, (x0 : Sl).v)] Go.Proofs.Try.func14 rfl rfl (Nat.le_of_ble_eq_true rfl) (args_of ⟨rfl, trivial⟩) (fun w0 w Q R a hret hE hR H => ?_)
  unfold sector_Sum at H
  refine w_seq (fun K hK_1 => ?_)
  refine t_region ?_
  refine t_val (v := .int .u32 0) rfl rfl hE rfl (r_assign hE rfl) (fun a hE => ?_)
  refine t_nil ?_
  refine hK_1 _ _ ?_
  refine w_seq (fun K hK_2 => ?_)
  refine t_region ?_
  refine t_val (v := .int .u32 4294967295) rfl rfl hE rfl (r_assign hE rfl) (fun a hE => ?_)
  refine t_nil ?_
  refine hK_2 _ _ ?_
  refine w_seq (fun K hK_3 => ?_)
  refine w_seq (fun K hK_4 => ?_)
  refine t_region ?_
  refine t_val (v := (x0 : Sl).v) rfl rfl hE rfl (r_move hE rfl) (fun a hE => ?_)
  refine t_val (v := .int .i64 (x0.len : Int)) rfl rfl hE rfl (r_len hE rfl 5 un22) (fun a hE => ?_)
  refine t_val (v := .int .i64 0) rfl rfl hE rfl (r_move hE rfl) (fun a hE => ?_)
  refine t_nil ?_
  refine hK_4 _ _ ?_
  refine w_block ?_
  refine l_loop (fun (s : Int × Int) => (⟨31, []⟩ : Frm)) (fun (s : Int × Int) => [(3, .int .u32 s.1), (7, (x0 : Sl).v), (8, .int .i64 (x0.len : Int)), (9, .int .i64 s.2)]) H (hE.cut (.cons rfl (.cons rfl (.cons rfl (.cons rfl Subs.nil))))) hR (fun Y self1 hY_9 s a w hE hR H => ?_)
  rcases s with ⟨x3_5, x9_6⟩
  replace hE : Env (⟨31, []⟩ : Frm) a [(3, .int .u32 x3_5), (7, (x0 : Sl).v), (8, .int .i64 (x0.len : Int)), (9, .int .i64 x9_6)] := hE
  replace H : (sector_Sum_l1 x0 (x0.len : Int) self1 (x3_5, x9_6)).wp w.heap Q := H
  unfold sector_Sum_l1 at H
  refine w_seq (fun K hK_10 => ?_)
  refine t_region ?_
  refine t_val (v := .bool (decide (x9_6 < (x0.len : Int)))) rfl rfl hE rfl (r_bin hE rfl rfl g_int b_lss) (fun a hE => ?_)
  refine t_nil ?_
  refine hK_10 _ _ ?_
  refine w_seq (fun K hK_11 => ?_)
  refine w_cond (decide (x9_6 < (x0.len : Int))) hE rfl (fun hb => ?_) (fun hb => ?_)
  · replace H := M.ite_t hb H
    refine w_skip ?_
    refine hK_11 _ _ ?_
    refine w_seq (fun K hK_12 => ?_)
    refine w_block ?_
    refine w_seq (fun K hK_13 => ?_)
    refine t_region ?_
    obtain ⟨x11_14, qx11_14, H⟩ := H
    refine t_val (v := .pointer (some x11_14)) rfl rfl hE rfl (r_indexAddrL hE rfl rfl un22 sz5 qx11_14) (fun a hE => ?_)
    obtain ⟨x12_15, qx12_15, H⟩ := H
    refine t_val (v := .int .u8 x12_15) rfl rfl hE rfl (r_load hE rfl sc5 qx12_15) (fun a hE => ?_)
    refine t_val (v := .int .u8 x12_15) rfl rfl hE rfl (r_assign hE rfl) (fun a hE => ?_)
    refine t_nil ?_
    refine hK_13 _ _ ?_
    refine w_seq (fun K hK_16 => ?_)
    refine t_region ?_
    refine t_val (v := .int .u32 x3_5) rfl rfl hE rfl (r_move hE rfl) (fun a hE => ?_)
    refine t_val (v := .int .u8 x12_15) rfl rfl hE rfl (r_move hE rfl) (fun a hE => ?_)
    refine t_val (v := .int .u32 (IntKind.wrap .u32 x12_15)) rfl rfl hE rfl (r_convI hE rfl un5 un34) (fun a hE => ?_)
    refine t_val (v := .int .u32 (iXor .u32 x3_5 (IntKind.wrap .u32 x12_15))) rfl rfl hE rfl (r_bin hE rfl rfl g_int b_xor) (fun a hE => ?_)
    refine t_val (v := .int .u32 (iXor .u32 x3_5 (IntKind.wrap .u32 x12_15))) rfl rfl hE rfl (r_assign hE rfl) (fun a hE => ?_)
    refine t_nil ?_
    refine hK_16 _ _ ?_
    refine w_seq (fun K hK_17 => ?_)
    refine t_region ?_
    refine t_val (v := .int .i64 0) rfl rfl hE rfl (r_move hE rfl) (fun a hE => ?_)
    refine t_nil ?_
    refine hK_17 _ _ ?_
    refine w_block ?_
    refine l_loop (fun (s : Int × Int) => (⟨31, []⟩ : Frm)) (fun (s : Int × Int) => [(3, .int .u32 s.1), (7, (x0 : Sl).v), (8, .int .i64 (x0.len : Int)), (9, .int .i64 x9_6), (17, .int .i64 s.2)]) H (hE.cut (.cons rfl (.cons rfl (.cons rfl (.cons rfl (.cons rfl Subs.nil)))))) hR (fun Y self2 hY_23 s a w hE hR H => ?_)
    rcases s with ⟨x3_18, x17_19⟩
    replace hE : Env (⟨31, []⟩ : Frm) a [(3, .int .u32 x3_18), (7, (x0 : Sl).v), (8, .int .i64 (x0.len : Int)), (9, .int .i64 x9_6), (17, .int .i64 x17_19)] := hE
    replace H : (sector_Sum_l2 self1 x9_6 self2 (x3_18, x17_19)).wp w.heap Q := H
    unfold sector_Sum_l2 at H
    refine w_seq (fun K hK_24 => ?_)
    refine t_region ?_
    refine t_val (v := .bool (decide (x17_19 < 8))) rfl rfl hE rfl (r_bin hE rfl rfl g_int b_lss) (fun a hE => ?_)
    refine t_nil ?_
    refine hK_24 _ _ ?_
    refine w_seq (fun K hK_25 => ?_)
    refine w_cond (decide (x17_19 < 8)) hE rfl (fun hb => ?_) (fun hb => ?_)
    · replace H := M.ite_t hb H
      refine w_skip ?_
      refine hK_25 _ _ ?_
      refine w_seq_join (fun a w => ∃ (x3_26 : Int), Env (⟨31, []⟩ : Frm) a [(7, (x0 : Sl).v), (8, .int .i64 (x0.len : Int)), (9, .int .i64 x9_6), (17, .int .i64 x17_19), (3, .int .u32 x3_26)] ∧ Rest w0 w ∧ (sector_Sum_j1 self2 x17_19 x3_26).wp w.heap Q) ?_ ?_
      · rintro a w ⟨x3_26, hE, hR, H⟩
        unfold sector_Sum_j1 at H
        refine t_region ?_
        refine t_val (v := .int .i64 (IntKind.wrap .i64 (x17_19 + 1))) rfl rfl hE rfl (r_bin hE rfl rfl g_int b_add) (fun a hE => ?_)
        refine t_val (v := .int .i64 (IntKind.wrap .i64 (x17_19 + 1))) rfl rfl hE rfl (r_move hE rfl) (fun a hE => ?_)
        refine t_nil ?_
        exact hY_23 (x3_26, IntKind.wrap .i64 (x17_19 + 1)) _ _ (hE.cut (.cons rfl (.cons rfl (.cons rfl (.cons rfl (.cons rfl Subs.nil)))))) hR H
      · skip
        refine w_block ?_
        refine w_seq (fun K hK_31 => ?_)
        refine t_region ?_
        refine t_val (v := .int .u32 x3_18) rfl rfl hE rfl (r_move hE rfl) (fun a hE => ?_)
        refine t_val (v := .int .u32 (iAnd .u32 x3_18 1)) rfl rfl hE rfl (r_bin hE rfl rfl g_int b_and) (fun a hE => ?_)
        refine t_val (v := .int .u32 (iAnd .u32 x3_18 1)) rfl rfl hE rfl (r_assign hE rfl) (fun a hE => ?_)
        refine t_nil ?_
        refine hK_31 _ _ ?_
        refine w_seq (fun K hK_32 => ?_)
        refine t_region ?_
        refine t_val (v := .int .u32 x3_18) rfl rfl hE rfl (r_move hE rfl) (fun a hE => ?_)
        refine t_val (v := .int .u32 (iShr .u32 x3_18 1)) rfl rfl hE rfl (r_bin hE rfl rfl g_int (b_shr ⟨by decide, rfl⟩)) (fun a hE => ?_)
        refine t_val (v := .int .u32 (iShr .u32 x3_18 1)) rfl rfl hE rfl (r_assign hE rfl) (fun a hE => ?_)
        refine t_nil ?_
        refine hK_32 _ _ ?_
        refine w_seq (fun K hK_33 => ?_)
        refine t_region ?_
        refine t_val (v := .int .u32 (iAnd .u32 x3_18 1)) rfl rfl hE rfl (r_move hE rfl) (fun a hE => ?_)
        refine t_val (v := .bool ((iAnd .u32 x3_18 1) == 1)) rfl rfl hE rfl (r_bin hE rfl rfl g_int b_eql) (fun a hE => ?_)
        refine t_nil ?_
        refine hK_33 _ _ ?_
        refine w_cond ((iAnd .u32 x3_18 1) == 1) hE rfl (fun hb => ?_) (fun hb => ?_)
        · replace H := M.ite_t hb H
          refine t_region ?_
          refine t_val (v := .int .u32 (iShr .u32 x3_18 1)) rfl rfl hE rfl (r_move hE rfl) (fun a hE => ?_)
          refine t_val (v := .int .u32 (iXor .u32 (iShr .u32 x3_18 1) 3988292384)) rfl rfl hE rfl (r_bin hE rfl rfl g_int b_xor) (fun a hE => ?_)
          refine t_val (v := .int .u32 (iXor .u32 (iShr .u32 x3_18 1) 3988292384)) rfl rfl hE rfl (r_assign hE rfl) (fun a hE => ?_)
          refine t_nil ?_
          exact ⟨iXor .u32 (iShr .u32 x3_18 1) 3988292384, hE.cut (.cons rfl (.cons rfl (.cons rfl (.cons rfl (.cons rfl Subs.nil))))), hR, H⟩
        · replace H := M.ite_f hb H
          refine w_skip ?_
          exact ⟨iShr .u32 x3_18 1, hE.cut (.cons rfl (.cons rfl (.cons rfl (.cons rfl (.cons rfl Subs.nil))))), hR, H⟩
    · replace H := M.ite_f hb H
      refine w_exit ?_
      refine Xu.same ?_
      refine hK_12 _ _ ?_
      refine t_region ?_
      refine t_val (v := .int .i64 (IntKind.wrap .i64 (x9_6 + 1))) rfl rfl hE rfl (r_bin hE rfl rfl g_int b_add) (fun a hE => ?_)
      refine t_val (v := .int .i64 (IntKind.wrap .i64 (x9_6 + 1))) rfl rfl hE rfl (r_move hE rfl) (fun a hE => ?_)
      refine t_nil ?_
      exact hY_9 (x3_18, IntKind.wrap .i64 (x9_6 + 1)) _ _ (hE.cut (.cons rfl (.cons rfl (.cons rfl (.cons rfl Subs.nil))))) hR H
  · replace H := M.ite_f hb H
    refine w_exit ?_
    refine Xu.same ?_
    refine hK_3 _ _ ?_
    refine w_seq (fun K hK_34 => ?_)
    refine t_region ?_
    refine t_val (v := .int .u32 x3_5) rfl rfl hE rfl (r_move hE rfl) (fun a hE => ?_)
    refine t_val (v := .int .u32 (iNot .u32 x3_5)) rfl rfl hE rfl (r_un hE rfl u_xor) (fun a hE => ?_)
    refine t_val (v := .int .u32 (iNot .u32 x3_5)) rfl rfl hE rfl (r_assign hE rfl) (fun a hE => ?_)
    refine t_nil ?_
    refine hK_34 _ _ ?_
    refine w_ret ?_
    exact hret _ _ _ (iNot .u32 x3_5) _ hE hR (res_run hE rfl (RV.tmp rfl RV.nil)) rfl H

/-- ramble/sector.big -/
def sector_big_l1 (c0_3 : Int) (c1_4 : Sl) (c6_5 : Int) (self1 : (Int) → M (Unit)) : (Int) → M (Unit) := fun s => match s with
  | x7_2 => do
    M.ite (decide (x7_2 < c6_5)) (do
      let x19_11 ← pShr .u64 c0_3 (IntKind.wrap .i64 (8 * (IntKind.wrap .i64 ((IntKind.wrap .i64 ((c1_4.len : Int) - 1)) - x7_2))))
      let x21_12 ← ixL c1_4 x7_2 1
      stV x21_12 (.int .u8 (IntKind.wrap .u8 x19_11))
      self1 (IntKind.wrap .i64 (x7_2 + 1))
      ) (do
      M.pure ()
      )
def sector_big (x0 : Int) (x1 : Sl) : M (Unit) := do
  M.loop (sector_big_l1 x0 x1 (x1.len : Int)) 0
theorem S_sector_big (x0 : Int) (x1 : Sl) : Sound Go.Proofs.Try.prog 34 #[.int .u64 x0, (x1 : Sl).v] (fun (r : Unit) => .tuple #[]) (sector_big x0 x1) := by
  refine sound_of [(0, .int .u64 x0), (1, (x1 : Sl).v)] Go.Proofs.Try.func34 rfl rfl (Nat.le_of_ble_eq_true rfl) (args_of ⟨rfl, rfl, trivial⟩) (fun w0 w Q R a hret hE hR H => ?_)
  unfold sector_big at H
  refine w_seq (fun K hK_1 => ?_)
  refine t_region ?_
  refine t_val (v := (x1 : Sl).v) rfl rfl hE rfl (r_move hE rfl) (fun a hE => ?_)
  refine t_val (v := .int .i64 (x1.len : Int)) rfl rfl hE rfl (r_len hE rfl 5 un22) (fun a hE => ?_)
  refine t_val (v := .int .i64 0) rfl rfl hE rfl (r_move hE rfl) (fun a hE => ?_)
  refine t_nil ?_
  refine hK_1 _ _ ?_
  refine w_block ?_
  refine l_loop (fun (s : Int) => (⟨23, []⟩ : Frm)) (fun (s : Int) => [(0, .int .u64 x0), (1, (x1 : Sl).v), (6, .int .i64 (x1.len : Int)), (7, .int .i64 s)]) H (hE.cut (.cons rfl (.cons rfl (.cons rfl (.cons rfl Subs.nil))))) hR (fun Y self1 hY_6 x7_2 a w hE hR H => ?_)
  replace hE : Env (⟨23, []⟩ : Frm) a [(0, .int .u64 x0), (1, (x1 : Sl).v), (6, .int .i64 (x1.len : Int)), (7, .int .i64 x7_2)] := hE
  replace H : (sector_big_l1 x0 x1 (x1.len : Int) self1 x7_2).wp w.heap Q := H
  unfold sector_big_l1 at H
  refine w_seq (fun K hK_7 => ?_)
  refine t_region ?_
  refine t_val (v := .bool (decide (x7_2 < (x1.len : Int)))) rfl rfl hE rfl (r_bin hE rfl rfl g_int b_lss) (fun a hE => ?_)
  refine t_nil ?_
  refine hK_7 _ _ ?_
  refine w_seq (fun K hK_8 => ?_)
  refine w_cond (decide (x7_2 < (x1.len : Int))) hE rfl (fun hb => ?_) (fun hb => ?_)
  · replace H := M.ite_t hb H
    refine w_skip ?_
    refine hK_8 _ _ ?_
    refine w_seq (fun K hK_9 => ?_)
    refine w_block ?_
    refine w_seq (fun K hK_10 => ?_)
    refine t_region ?_
    refine t_val (v := .int .i64 x7_2) rfl rfl hE rfl (r_move hE rfl) (fun a hE => ?_)
    refine t_val (v := .int .i64 x7_2) rfl rfl hE rfl (r_assign hE rfl) (fun a hE => ?_)
    refine t_nil ?_
    refine hK_10 _ _ ?_
    refine t_region ?_
    refine t_val (v := (x1 : Sl).v) rfl rfl hE rfl (r_move hE rfl) (fun a hE => ?_)
    refine t_val (v := .int .i64 x7_2) rfl rfl hE rfl (r_move hE rfl) (fun a hE => ?_)
    refine t_val (v := .int .u64 x0) rfl rfl hE rfl (r_move hE rfl) (fun a hE => ?_)
    refine t_val (v := (x1 : Sl).v) rfl rfl hE rfl (r_move hE rfl) (fun a hE => ?_)
    refine t_val (v := .int .i64 (x1.len : Int)) rfl rfl hE rfl (r_len hE rfl 5 un22) (fun a hE => ?_)
    refine t_val (v := .int .i64 (IntKind.wrap .i64 ((x1.len : Int) - 1))) rfl rfl hE rfl (r_bin hE rfl rfl g_int b_sub) (fun a hE => ?_)
    refine t_val (v := .int .i64 x7_2) rfl rfl hE rfl (r_move hE rfl) (fun a hE => ?_)
    refine t_val (v := .int .i64 (IntKind.wrap .i64 ((IntKind.wrap .i64 ((x1.len : Int) - 1)) - x7_2))) rfl rfl hE rfl (r_bin hE rfl rfl g_int b_sub) (fun a hE => ?_)
    refine t_val (v := .int .i64 (IntKind.wrap .i64 (8 * (IntKind.wrap .i64 ((IntKind.wrap .i64 ((x1.len : Int) - 1)) - x7_2))))) rfl rfl hE rfl (r_bin hE rfl rfl g_int b_mul) (fun a hE => ?_)
    obtain ⟨x19_11, qx19_11, H⟩ := H
    refine t_val (v := .int .u64 x19_11) rfl rfl hE rfl (r_bin hE rfl rfl g_int (b_shr qx19_11)) (fun a hE => ?_)
    refine t_val (v := .int .u8 (IntKind.wrap .u8 x19_11)) rfl rfl hE rfl (r_convI hE rfl un67 un5) (fun a hE => ?_)
    obtain ⟨x21_12, qx21_12, H⟩ := H
    refine t_val (v := .pointer (some x21_12)) rfl rfl hE rfl (r_indexAddrL hE rfl rfl un22 sz5 qx21_12) (fun a hE => ?_)
    obtain ⟨u_13, qu_13, H⟩ := H
    refine t_sth rfl rfl hE hR (r_store hE rfl rfl sz5 qu_13) (fun a w hE hR hh => ?_)
    replace H := M.at hh H; clear hh
    refine t_nil ?_
    refine hK_9 _ _ ?_
    refine t_region ?_
    refine t_val (v := .int .i64 (IntKind.wrap .i64 (x7_2 + 1))) rfl rfl hE rfl (r_bin hE rfl rfl g_int b_add) (fun a hE => ?_)
    refine t_val (v := .int .i64 (IntKind.wrap .i64 (x7_2 + 1))) rfl rfl hE rfl (r_move hE rfl) (fun a hE => ?_)
    refine t_nil ?_
    exact hY_6 (IntKind.wrap .i64 (x7_2 + 1)) _ _ (hE.cut (.cons rfl (.cons rfl (.cons rfl (.cons rfl Subs.nil))))) hR H
  · replace H := M.ite_f hb H
    refine w_exit ?_
    refine Xu.same ?_
    exact hret _ _ _ () _ hE hR (res_run hE rfl RV.nil) rfl H

/-- ramble/sector.Seal -/
theorem tb8_4 : tabAt Go.Proofs.Try.f8 4 [[], [0], [1], [], [3], [4], [5], [0, 1, 2], [7, 2, 0, 1, 2], [0, 1, 2, 3, 4, 5, 6, 7, 8], [9, 6, 8, 0, 1, 2, 3, 4, 5, 6, 7, 8]] [[], [0], [1], [], [3], [4], [5], [], [2, 7], [], [6, 9]] [[], [0], [0, 1], [], [3], [3, 4], [3, 4, 5], [0, 1, 2], [0, 1, 2, 7], [0, 1, 2, 3, 4, 5, 6, 7, 8], [0, 1, 2, 3, 4, 5, 6, 7, 8, 9]] = true := by kernel_rfl
theorem tb8_5 : tabAt Go.Proofs.Try.f8 5 [[], [0], [1], [], [2, 3]] [[], [0], [1], [], [2, 3]] [[], [0], [0, 1], [], [0, 1, 2, 3]] = true := by kernel_rfl
theorem tb8_6 : tabAt Go.Proofs.Try.f8 6 [[], [], [1], [0, 2]] [[], [], [1], [0, 2]] [[], [], [1], [0, 1, 2]] = true := by kernel_rfl
def sector_Seal_l1 (c2_38 : Addr) (c4_39 : Addr) (c6_40 : Int) (self1 : (Int) → M (Array Value × Int)) : (Int) → M (Array Value × Int) := fun s => match s with
  | x5_37 => do
    M.ite (decide (x5_37 < 4)) (do
      let x56_45 ← pShr .u32 c6_40 (IntKind.wrap .i64 (8 * x5_37))
      let x58_46 ← ixA c4_39 128 (IntKind.wrap .i64 (124 + x5_37)) 1
      stV x58_46 (.int .u8 (IntKind.wrap .u8 x56_45))
      self1 (IntKind.wrap .i64 (x5_37 + 1))
      ) (do
      let x59_49 ← ldG 128 c4_39
      M.need (x59_49.size = 128)
      stG c2_38 x59_49
      let r2_51 ← ldG 128 c2_38
      M.pure (r2_51, 0)
      )
def sector_Seal (x0 : Array Value) : M (Array Value × Int) := do
  let x1_2 ← mkB ty_api_Frame x0
  let x2_3 ← mkB ty_api_Sector (Array.replicate 128 (.int .u8 0) : Array Value)
  let x8_6 ← ldI .i64 ((x1_2).add 0)
  let x14_7 ← M.ite (decide (x8_6 < 1)) (do
    M.pure true
    ) (do
    let x12_8 ← ldI .i64 ((x1_2).add 0)
    M.pure (decide (x12_8 > 255))
    )
  let x19_9 ← M.ite x14_7 (do
    M.pure true
    ) (do
    let x17_10 ← ldI .i64 ((x1_2).add 1)
    M.pure (decide (x17_10 < 0))
    )
  let x25_11 ← M.ite x19_9 (do
    M.pure true
    ) (do
    let x22_12 ← ldL ((x1_2).add 2)
    M.pure (decide ((x22_12.len : Int) > 112))
    )
  M.ite x25_11 (do
    M.need ((Array.replicate 128 (.int .u8 0) : Array Value).size = 128)
    stG x2_3 (Array.replicate 128 (.int .u8 0) : Array Value)
    let r2_15 ← ldG 128 x2_3
    M.pure (r2_15, 1)
    ) (do
    let x4_17 ← mkB ty_api_Sector (Array.replicate 128 (.int .u8 0) : Array Value)
    let x28_19 ← ldI .i64 ((x1_2).add 0)
    let x34_20 ← ixA x4_17 128 0 1
    let x31_21 ← ldL ((x1_2).add 2)
    stV x34_20 (.int .u8 (IntKind.wrap .u8 x28_19))
    chk (fun h : Heap => (hcell h ((x1_2).add 0) = some (.int .i64 x28_19)) ∧ (hcell h ((x1_2).add 2) = some ((x31_21 : Sl).v)))
    let x35_23 ← ixA x4_17 128 1 1
    stV x35_23 (.int .u8 (IntKind.wrap .u8 (x31_21.len : Int)))
    let x39_26 ← slA x4_17 128 2 10 1
    let x37_27 ← ldI .i64 ((x1_2).add 1)
    let x40_28 ← sector_big (IntKind.wrap .u64 x37_27) x39_26
    let x41_30 ← slA x4_17 128 10 128 1
    let x43_31 ← ldL ((x1_2).add 2)
    let x44_32 ← cpL 1 x41_30 x43_31
    let x45_35 ← slA x4_17 128 0 124 1
    let x46_36 ← sector_Sum x45_35
    M.loop (sector_Seal_l1 x2_3 x4_17 x46_36) 0
    )
theorem S_sector_Seal (x0 : Array Value) : Sound Go.Proofs.Try.prog 8 #[.agg x0] (fun (r : Array Value × Int) => .tuple #[.agg r.1, .int .i64 r.2]) (sector_Seal x0) := by
  refine sound_of [(0, .agg x0)] Go.Proofs.Try.func8 rfl rfl (Nat.le_of_ble_eq_true rfl) (args_of ⟨rfl, trivial⟩) (fun w0 w Q R a hret hE hR H => ?_)
  unfold sector_Seal at H
  refine w_seq (fun K hK_1 => ?_)
  refine t_region ?_
  obtain ⟨x1_2, qx1_2, H⟩ := H
  refine t_valh (v := .pointer (some x1_2)) rfl rfl hE rfl hR (r_box hE rfl qx1_2) (fun a w hE hR hh => ?_)
  replace H := M.at hh H; clear hh
  obtain ⟨x2_3, qx2_3, H⟩ := H
  refine t_valh (v := .pointer (some x2_3)) rfl rfl hE rfl hR (r_alloc zr26 qx2_3) (fun a w hE hR hh => ?_)
  replace H := M.at hh H; clear hh
  refine t_val (v := .int .i64 0) rfl rfl hE rfl (r_assign hE rfl) (fun a hE => ?_)
  refine t_nil ?_
  refine hK_1 _ _ ?_
  refine w_seq (fun K hK_4 => ?_)
  refine w_seq (fun K hK_5 => ?_)
  refine t_region ?_
  refine t_val (v := .pointer (some ((x1_2).add 0))) rfl rfl hE rfl (r_fieldAddr hE rfl fd24_0) (fun a hE => ?_)
  obtain ⟨x8_6, qx8_6, H⟩ := H
  refine t_val (v := .int .i64 x8_6) rfl rfl hE rfl (r_load hE rfl sc3 qx8_6) (fun a hE => ?_)
  refine t_val (v := .bool (decide (x8_6 < 1))) rfl rfl hE rfl (r_bin hE rfl rfl g_int b_lss) (fun a hE => ?_)
  refine t_val (v := .bool (decide (x8_6 < 1))) rfl rfl hE rfl (r_move hE rfl) (fun a hE => ?_)
  refine t_grp (n := (⟨60, []⟩ : Frm)) (w0 := w0) 4 (fun x14_7 : Bool => [(1, .pointer (some x1_2)), (2, .pointer (some x2_3)), (14, .bool x14_7)]) (M.unbind H) (fun Kr hKr H => ?_) ?_
  · rcases bool_em (decide (x8_6 < 1)) with hb | hb
    · replace H := M.ite_t hb H
      have hE := hE.reb 10 (decide (x8_6 < 1)) true hb rfl
      refine t_off rfl hE rfl rfl rfl (fun a ea => ?_)
      have hE := Env.put_some hE rfl ea; clear ea
      refine t_off rfl hE rfl rfl rfl (fun a ea => ?_)
      have hE := Env.put_some hE rfl ea; clear ea
      refine t_off rfl hE rfl rfl rfl (fun a ea => ?_)
      have hE := Env.put_some hE rfl ea; clear ea
      refine t_val rfl rfl hE rfl (r_pick_t hE rfl rfl) (fun a hE => ?_)
      refine t_nil ?_
      exact hKr _ _ _ (hE.cut (.cons rfl (.cons rfl (.cons rfl Subs.nil)))) hR H
    · replace H := M.ite_f hb H
      have hE := hE.reb 10 (decide (x8_6 < 1)) false hb rfl
      refine t_on rfl hE rfl rfl rfl ?_
      refine t_val (v := .pointer (some ((x1_2).add 0))) rfl rfl hE rfl (r_fieldAddr hE rfl fd24_0) (fun a hE => ?_)
      refine t_on rfl hE rfl rfl rfl ?_
      obtain ⟨x12_8, qx12_8, H⟩ := H
      refine t_val (v := .int .i64 x12_8) rfl rfl hE rfl (r_load hE rfl sc3 qx12_8) (fun a hE => ?_)
      refine t_on rfl hE rfl rfl rfl ?_
      refine t_val (v := .bool (decide (x12_8 > 255))) rfl rfl hE rfl (r_bin hE rfl rfl g_int b_gtr) (fun a hE => ?_)
      refine t_val rfl rfl hE rfl (r_pick_f hE rfl rfl) (fun a hE => ?_)
      refine t_nil ?_
      exact hKr _ _ _ (hE.cut (.cons rfl (.cons rfl (.cons rfl Subs.nil)))) hR H
  · intro x14_7 a w hE hR H
    refine t_val (v := .bool x14_7) rfl rfl hE rfl (r_move hE rfl) (fun a hE => ?_)
    refine t_grp (n := (⟨60, []⟩ : Frm)) (w0 := w0) 4 (fun x19_9 : Bool => [(1, .pointer (some x1_2)), (2, .pointer (some x2_3)), (19, .bool x19_9)]) (M.unbind H) (fun Kr hKr H => ?_) ?_
    · rcases bool_em x14_7 with hb | hb
      · replace H := M.ite_t hb H
        have hE := hE.reb 15 x14_7 true hb rfl
        refine t_off rfl hE rfl rfl rfl (fun a ea => ?_)
        have hE := Env.put_some hE rfl ea; clear ea
        refine t_off rfl hE rfl rfl rfl (fun a ea => ?_)
        have hE := Env.put_some hE rfl ea; clear ea
        refine t_off rfl hE rfl rfl rfl (fun a ea => ?_)
        have hE := Env.put_some hE rfl ea; clear ea
        refine t_val rfl rfl hE rfl (r_pick_t hE rfl rfl) (fun a hE => ?_)
        refine t_nil ?_
        exact hKr _ _ _ (hE.cut (.cons rfl (.cons rfl (.cons rfl Subs.nil)))) hR H
      · replace H := M.ite_f hb H
        have hE := hE.reb 15 x14_7 false hb rfl
        refine t_on rfl hE rfl rfl rfl ?_
        refine t_val (v := .pointer (some ((x1_2).add 1))) rfl rfl hE rfl (r_fieldAddr hE rfl fd24_1) (fun a hE => ?_)
        refine t_on rfl hE rfl rfl rfl ?_
        obtain ⟨x17_10, qx17_10, H⟩ := H
        refine t_val (v := .int .i64 x17_10) rfl rfl hE rfl (r_load hE rfl sc2 qx17_10) (fun a hE => ?_)
        refine t_on rfl hE rfl rfl rfl ?_
        refine t_val (v := .bool (decide (x17_10 < 0))) rfl rfl hE rfl (r_bin hE rfl rfl g_int b_lss) (fun a hE => ?_)
        refine t_val rfl rfl hE rfl (r_pick_f hE rfl rfl) (fun a hE => ?_)
        refine t_nil ?_
        exact hKr _ _ _ (hE.cut (.cons rfl (.cons rfl (.cons rfl Subs.nil)))) hR H
    · intro x19_9 a w hE hR H
      refine t_val (v := .bool x19_9) rfl rfl hE rfl (r_move hE rfl) (fun a hE => ?_)
      refine t_grp (n := (⟨60, []⟩ : Frm)) (w0 := w0) 5 (fun x25_11 : Bool => [(1, .pointer (some x1_2)), (2, .pointer (some x2_3)), (25, .bool x25_11)]) (M.unbind H) (fun Kr hKr H => ?_) ?_
      · rcases bool_em x19_9 with hb | hb
        · replace H := M.ite_t hb H
          have hE := hE.reb 20 x19_9 true hb rfl
          refine t_off rfl hE rfl rfl rfl (fun a ea => ?_)
          have hE := Env.put_some hE rfl ea; clear ea
          refine t_off rfl hE rfl rfl rfl (fun a ea => ?_)
          have hE := Env.put_some hE rfl ea; clear ea
          refine t_off rfl hE rfl rfl rfl (fun a ea => ?_)
          have hE := Env.put_some hE rfl ea; clear ea
          refine t_off rfl hE rfl rfl rfl (fun a ea => ?_)
          have hE := Env.put_some hE rfl ea; clear ea
          refine t_val rfl rfl hE rfl (r_pick_t hE rfl rfl) (fun a hE => ?_)
          refine t_nil ?_
          exact hKr _ _ _ (hE.cut (.cons rfl (.cons rfl (.cons rfl Subs.nil)))) hR H
        · replace H := M.ite_f hb H
          have hE := hE.reb 20 x19_9 false hb rfl
          refine t_on rfl hE rfl rfl rfl ?_
          refine t_val (v := .pointer (some ((x1_2).add 2))) rfl rfl hE rfl (r_fieldAddr hE rfl fd24_2) (fun a hE => ?_)
          refine t_on rfl hE rfl rfl rfl ?_
          obtain ⟨x22_12, qx22_12, H⟩ := H
          refine t_val (v := (x22_12 : Sl).v) rfl rfl hE rfl (r_load hE rfl sc22 qx22_12) (fun a hE => ?_)
          refine t_on rfl hE rfl rfl rfl ?_
          refine t_val (v := .int .i64 (x22_12.len : Int)) rfl rfl hE rfl (r_len hE rfl 5 un22) (fun a hE => ?_)
          refine t_on rfl hE rfl rfl rfl ?_
          refine t_val (v := .bool (decide ((x22_12.len : Int) > 112))) rfl rfl hE rfl (r_bin hE rfl rfl g_int b_gtr) (fun a hE => ?_)
          refine t_val rfl rfl hE rfl (r_pick_f hE rfl rfl) (fun a hE => ?_)
          refine t_nil ?_
          exact hKr _ _ _ (hE.cut (.cons rfl (.cons rfl (.cons rfl Subs.nil)))) hR H
      · intro x25_11 a w hE hR H
        refine t_nil ?_
        refine hK_5 _ _ ?_
        refine w_cond x25_11 hE rfl (fun hb => ?_) (fun hb => ?_)
        · replace H := M.ite_t hb H
          refine w_seq (fun K hK_13 => ?_)
          refine t_region ?_
          refine t_val (v := .agg (Array.replicate 128 (.int .u8 0) : Array Value)) rfl rfl hE rfl (r_build0 bd26) (fun a hE => ?_)
          obtain ⟨qz, H⟩ := H
          obtain ⟨u_14, qu_14, H⟩ := H
          refine t_sth rfl rfl hE hR (r_storeG hE rfl rfl sz26 qz qu_14) (fun a w hE hR hh => ?_)
          replace H := M.at hh H; clear hh
          refine t_val (v := .int .i64 1) rfl rfl hE rfl (r_assign hE rfl) (fun a hE => ?_)
          refine t_nil ?_
          refine hK_13 _ _ ?_
          refine w_ret ?_
          obtain ⟨r2_15, qr2_15, H⟩ := H
          exact hret _ _ _ (r2_15, 1) _ hE hR (res_run hE rfl (RV.cellG rfl ag26 qr2_15 (RV.tmp rfl RV.nil))) rfl H
        · replace H := M.ite_f hb H
          refine w_skip ?_
          refine hK_4 _ _ ?_
          refine w_seq (fun K hK_16 => ?_)
          refine t_region ?_
          obtain ⟨x4_17, qx4_17, H⟩ := H
          refine t_valh (v := .pointer (some x4_17)) rfl rfl hE rfl hR (r_alloc zr26 qx4_17) (fun a w hE hR hh => ?_)
          replace H := M.at hh H; clear hh
          refine t_nil ?_
          refine hK_16 _ _ ?_
          refine w_seq (fun K hK_18 => ?_)
          obtain ⟨x28_19, qx28_19, H⟩ := H
          obtain ⟨x34_20, qx34_20, H⟩ := H
          obtain ⟨x31_21, qx31_21, H⟩ := H
          have hT := tab_of tb8_4 rfl rfl
          refine d_start (fun w : World => (fun h : Heap => (hcell h ((x1_2).add 0) = some (.int .i64 x28_19)) ∧ (hcell h ((x1_2).add 2) = some ((x31_21 : Sl).v))) w.heap) [9, 10] #[false, false, false, false, false, false, false, false, false, false, false] mo hR rfl rfl (fun w' e => by rw [e]; exact ⟨qx28_19, qx31_21⟩) (fun w hh hR hs => ?_)
          replace H := M.at hh H; clear hh
          refine d_pureg (i := 0) (v := .pointer (some ((x1_2).add 0))) #[true, false, false, false, false, false, false, false, false, false, false] rfl rfl hT (by kernel_rfl) hE rfl (wanted_none rfl) (fun w => r_fieldAddr hE rfl fd24_0) (fun a hE => ?_)
          refine d_pureg (i := 3) (v := .pointer (some ((x1_2).add 2))) #[true, false, false, true, false, false, false, false, false, false, false] rfl rfl hT (by kernel_rfl) hE rfl (wanted_none rfl) (fun w => r_fieldAddr hE rfl fd24_2) (fun a hE => ?_)
          refine d_read (i := 1) (v := .int .i64 x28_19) #[true, true, false, true, false, false, false, false, false, false, false] rfl rfl hT (by kernel_rfl) hE rfl (wanted_none rfl) hs (fun w s => r_load hE rfl sc3 s.1) (fun a hE => ?_)
          refine d_pureg (i := 2) (v := .int .u8 (IntKind.wrap .u8 x28_19)) #[true, true, true, true, false, false, false, false, false, false, false] rfl rfl hT (by kernel_rfl) hE rfl (wanted_none rfl) (fun w => r_convI hE rfl un3 un5) (fun a hE => ?_)
          refine d_pureg (i := 7) (v := .pointer (some x34_20)) #[true, true, true, true, false, false, false, true, false, false, false] rfl rfl hT (by kernel_rfl) hE rfl (wanted_none rfl) (fun w => r_indexAddrA hE rfl rfl un26 sz5 qx34_20) (fun a hE => ?_)
          refine d_read (i := 4) (v := (x31_21 : Sl).v) #[true, true, true, true, true, false, false, true, false, false, false] rfl rfl hT (by kernel_rfl) hE rfl (wanted_none rfl) hs (fun w s => r_load hE rfl sc22 s.2) (fun a hE => ?_)
          refine d_pureg (i := 5) (v := .int .i64 (x31_21.len : Int)) #[true, true, true, true, true, true, false, true, false, false, false] rfl rfl hT (by kernel_rfl) hE rfl (wanted_none rfl) (fun w => r_len hE rfl 5 un22) (fun a hE => ?_)
          refine d_pureg (i := 6) (v := .int .u8 (IntKind.wrap .u8 (x31_21.len : Int))) #[true, true, true, true, true, true, true, true, false, false, false] rfl rfl hT (by kernel_rfl) hE rfl (wanted_none rfl) (fun w => r_convI hE rfl un3 un5) (fun a hE => ?_)
          obtain ⟨u_22, qu_22, H⟩ := H
          obtain ⟨_, sA, H⟩ := H
          refine d_sth (i := 8) #[true, true, true, true, true, true, true, true, true, false, false] rfl rfl hT (by kernel_rfl) rfl hE hR (wanted_none rfl) (r_store hE rfl rfl sz5 qu_22)  (fun w' e => by rw [e]; exact sA) (fun a w hE hR hh hs => ?_)
          replace H := M.at hh H; clear hh
          obtain ⟨x35_23, qx35_23, H⟩ := H
          refine d_pureg (i := 9) (v := .pointer (some x35_23)) #[true, true, true, true, true, true, true, true, true, true, false] rfl rfl hT (by kernel_rfl) hE rfl (wanted_none rfl) (fun w => r_indexAddrA hE rfl rfl un26 sz5 qx35_23) (fun a hE => ?_)
          obtain ⟨u_24, qu_24, H⟩ := H
          refine d_stlh (i := 10) #[true, true, true, true, true, true, true, true, true, true, true] rfl rfl hT (by kernel_rfl) rfl hE hR (wanted_none rfl) (r_store hE rfl rfl sz5 qu_24)  (fun a w hE hR hh => ?_)
          replace H := M.at hh H; clear hh
          refine d_done hT (by kernel_rfl) ?_
          refine hK_18 _ _ ?_
          refine w_seq (fun K hK_25 => ?_)
          obtain ⟨x39_26, qx39_26, H⟩ := H
          obtain ⟨x37_27, qx37_27, H⟩ := H
          have hT := tab_of tb8_5 rfl rfl
          refine d_start (fun w : World => (fun h : Heap => (hcell h ((x1_2).add 1) = some (.int .i64 x37_27))) w.heap) [2, 4] #[false, false, false, false, false] mo hR rfl rfl (fun w' e => by rw [e]; exact qx37_27) (fun w hh hR hs => ?_)
          replace H := M.at hh H; clear hh
          refine d_pureg (i := 0) (v := .pointer (some ((x1_2).add 1))) #[true, false, false, false, false] rfl rfl hT (by kernel_rfl) hE rfl (wanted_none rfl) (fun w => r_fieldAddr hE rfl fd24_1) (fun a hE => ?_)
          refine d_pureg (i := 3) (v := (x39_26 : Sl).v) #[true, false, false, true, false] rfl rfl hT (by kernel_rfl) hE rfl (wanted_none rfl) (fun w => r_sliceA_lh hE rfl rfl rfl un26 sz5 qx39_26) (fun a hE => ?_)
          refine d_read (i := 1) (v := .int .i64 x37_27) #[true, true, false, true, false] rfl rfl hT (by kernel_rfl) hE rfl (wanted_none rfl) hs (fun w s => r_load hE rfl sc2 s) (fun a hE => ?_)
          refine d_pureg (i := 2) (v := .int .u64 (IntKind.wrap .u64 x37_27)) #[true, true, true, true, false] rfl rfl hT (by kernel_rfl) hE rfl (wanted_none rfl) (fun w => r_convI hE rfl un2 un67) (fun a hE => ?_)
          refine d_calll (i := 4) #[true, true, true, true, true] rfl rfl rfl hT (by kernel_rfl) rfl hE hR (wanted_none rfl) cl_sector_big rfl (S_sector_big (IntKind.wrap .u64 x37_27) x39_26) (M.unbind H) (fun x40_28 a w ea hR H => ?_)
          have hE := Env.put_some hE rfl ea; clear ea
          refine d_done hT (by kernel_rfl) ?_
          refine hK_25 _ _ ?_
          refine w_seq (fun K hK_29 => ?_)
          obtain ⟨x41_30, qx41_30, H⟩ := H
          obtain ⟨x43_31, qx43_31, H⟩ := H
          have hT := tab_of tb8_6 rfl rfl
          refine d_start (fun w : World => (fun h : Heap => (hcell h ((x1_2).add 2) = some ((x43_31 : Sl).v))) w.heap) [3] #[false, false, false, false] mo hR rfl rfl (fun w' e => by rw [e]; exact qx43_31) (fun w hh hR hs => ?_)
          replace H := M.at hh H; clear hh
          refine d_pureg (i := 0) (v := (x41_30 : Sl).v) #[true, false, false, false] rfl rfl hT (by kernel_rfl) hE rfl (wanted_none rfl) (fun w => r_sliceA_l hE rfl rfl un26 sz5 qx41_30) (fun a hE => ?_)
          refine d_pureg (i := 1) (v := .pointer (some ((x1_2).add 2))) #[true, true, false, false] rfl rfl hT (by kernel_rfl) hE rfl (wanted_none rfl) (fun w => r_fieldAddr hE rfl fd24_2) (fun a hE => ?_)
          refine d_read (i := 2) (v := (x43_31 : Sl).v) #[true, true, true, false] rfl rfl hT (by kernel_rfl) hE rfl (wanted_none rfl) hs (fun w s => r_load hE rfl sc22 s) (fun a hE => ?_)
          refine d_exl (i := 3) (fun x44_32 => .int .i64 x44_32) #[true, true, true, true] rfl rfl hT (by kernel_rfl) rfl hR (wanted_none rfl) (M.unbind H) (fun Q H => cp_run hE rfl rfl un22 sz5 H) (fun x44_32 a w ea hR H => ?_)
          have hE := Env.put_some hE rfl ea; clear ea
          refine d_done hT (by kernel_rfl) ?_
          refine hK_29 _ _ ?_
          refine w_seq (fun K hK_33 => ?_)
          refine w_seq (fun K hK_34 => ?_)
          refine t_region ?_
          obtain ⟨x45_35, qx45_35, H⟩ := H
          refine t_val (v := (x45_35 : Sl).v) rfl rfl hE rfl (r_sliceA_h hE rfl rfl un26 sz5 qx45_35) (fun a hE => ?_)
          refine t_call hE hR cl_sector_Sum rfl (S_sector_Sum x45_35) (M.unbind H) (fun x46_36 a w ea hR H => ?_)
          have hE := Env.put_some hE rfl ea; clear ea
          refine t_val (v := .int .i64 0) rfl rfl hE rfl (r_assign hE rfl) (fun a hE => ?_)
          refine t_val (v := .int .u32 x46_36) rfl rfl hE rfl (r_assign hE rfl) (fun a hE => ?_)
          refine t_nil ?_
          refine hK_34 _ _ ?_
          refine w_block ?_
          refine l_loop (fun (s : Int) => (⟨60, []⟩ : Frm)) (fun (s : Int) => [(2, .pointer (some x2_3)), (4, .pointer (some x4_17)), (5, .int .i64 s), (6, .int .u32 x46_36)]) H (hE.cut (.cons rfl (.cons rfl (.cons rfl (.cons rfl Subs.nil))))) hR (fun Y self1 hY_41 x5_37 a w hE hR H => ?_)
          replace hE : Env (⟨60, []⟩ : Frm) a [(2, .pointer (some x2_3)), (4, .pointer (some x4_17)), (5, .int .i64 x5_37), (6, .int .u32 x46_36)] := hE
          replace H : (sector_Seal_l1 x2_3 x4_17 x46_36 self1 x5_37).wp w.heap Q := H
          unfold sector_Seal_l1 at H
          refine w_seq (fun K hK_42 => ?_)
          refine w_seq (fun K hK_43 => ?_)
          refine t_region ?_
          refine t_val (v := .int .i64 x5_37) rfl rfl hE rfl (r_move hE rfl) (fun a hE => ?_)
          refine t_val (v := .bool (decide (x5_37 < 4))) rfl rfl hE rfl (r_bin hE rfl rfl g_int b_lss) (fun a hE => ?_)
          refine t_nil ?_
          refine hK_43 _ _ ?_
          refine w_cond (decide (x5_37 < 4)) hE rfl (fun hb => ?_) (fun hb => ?_)
          · replace H := M.ite_t hb H
            refine w_skip ?_
            refine hK_42 _ _ ?_
            refine w_seq (fun K hK_44 => ?_)
            refine w_block ?_
            refine t_region ?_
            refine t_val (v := .int .i64 x5_37) rfl rfl hE rfl (r_move hE rfl) (fun a hE => ?_)
            refine t_val (v := .int .i64 (IntKind.wrap .i64 (124 + x5_37))) rfl rfl hE rfl (r_bin hE rfl rfl g_int b_add) (fun a hE => ?_)
            refine t_val (v := .int .u32 x46_36) rfl rfl hE rfl (r_move hE rfl) (fun a hE => ?_)
            refine t_val (v := .int .i64 x5_37) rfl rfl hE rfl (r_move hE rfl) (fun a hE => ?_)
            refine t_val (v := .int .i64 (IntKind.wrap .i64 (8 * x5_37))) rfl rfl hE rfl (r_bin hE rfl rfl g_int b_mul) (fun a hE => ?_)
            obtain ⟨x56_45, qx56_45, H⟩ := H
            refine t_val (v := .int .u32 x56_45) rfl rfl hE rfl (r_bin hE rfl rfl g_int (b_shr qx56_45)) (fun a hE => ?_)
            refine t_val (v := .int .u8 (IntKind.wrap .u8 x56_45)) rfl rfl hE rfl (r_convI hE rfl un34 un5) (fun a hE => ?_)
            obtain ⟨x58_46, qx58_46, H⟩ := H
            refine t_val (v := .pointer (some x58_46)) rfl rfl hE rfl (r_indexAddrA hE rfl rfl un26 sz5 qx58_46) (fun a hE => ?_)
            obtain ⟨u_47, qu_47, H⟩ := H
            refine t_sth rfl rfl hE hR (r_store hE rfl rfl sz5 qu_47) (fun a w hE hR hh => ?_)
            replace H := M.at hh H; clear hh
            refine t_nil ?_
            refine hK_44 _ _ ?_
            refine t_region ?_
            refine t_val (v := .int .i64 x5_37) rfl rfl hE rfl (r_move hE rfl) (fun a hE => ?_)
            refine t_val (v := .int .i64 (IntKind.wrap .i64 (x5_37 + 1))) rfl rfl hE rfl (r_bin hE rfl rfl g_int b_add) (fun a hE => ?_)
            refine t_val (v := .int .i64 (IntKind.wrap .i64 (x5_37 + 1))) rfl rfl hE rfl (r_assign hE rfl) (fun a hE => ?_)
            refine t_nil ?_
            exact hY_41 (IntKind.wrap .i64 (x5_37 + 1)) _ _ (hE.cut (.cons rfl (.cons rfl (.cons rfl (.cons rfl Subs.nil))))) hR H
          · replace H := M.ite_f hb H
            refine w_exit ?_
            refine Xu.same ?_
            refine hK_33 _ _ ?_
            refine w_seq (fun K hK_48 => ?_)
            refine t_region ?_
            obtain ⟨x59_49, qx59_49, H⟩ := H
            refine t_val (v := .agg x59_49) rfl rfl hE rfl (r_loadG hE rfl ag26 qx59_49) (fun a hE => ?_)
            obtain ⟨qz, H⟩ := H
            obtain ⟨u_50, qu_50, H⟩ := H
            refine t_sth rfl rfl hE hR (r_storeG hE rfl rfl sz26 qz qu_50) (fun a w hE hR hh => ?_)
            replace H := M.at hh H; clear hh
            refine t_val (v := .int .i64 0) rfl rfl hE rfl (r_assign hE rfl) (fun a hE => ?_)
            refine t_nil ?_
            refine hK_48 _ _ ?_
            refine w_ret ?_
            obtain ⟨r2_51, qr2_51, H⟩ := H
            exact hret _ _ _ (r2_51, 0) _ hE hR (res_run hE rfl (RV.cellG rfl ag26 qr2_51 (RV.tmp rfl RV.nil))) rfl H

/-- slices.Clone[[]byte,byte] -/
def slices_Clone_byte_byte (x0 : Sl) : M (Sl) := do
  M.ite ((x0).base.isNone) (do
    M.pure Sl.nil
    ) (do
    let x5_6 ← bdL ty_uint8 0 #[]
    let x7_7 ← apL ty_uint8 1 1 (#[.int .u8 0] : Array Value) x5_6 x0
    M.pure x7_7
    )
theorem S_slices_Clone_byte_byte (x0 : Sl) : Sound Go.Proofs.Try.prog 35 #[(x0 : Sl).v] (fun (r : Sl) => (r : Sl).v) (slices_Clone_byte_byte x0) := by
  refine sound_of [(0, (x0 : Sl).v)] Go.Proofs.Try.func35 rfl rfl (Nat.le_of_ble_eq_true rfl) (args_of ⟨rfl, trivial⟩) (fun w0 w Q R a hret hE hR H => ?_)
  unfold slices_Clone_byte_byte at H
  refine w_seq (fun K hK_1 => ?_)
  refine t_region ?_
  refine t_val (v := (Sl.nil : Sl).v) rfl rfl hE rfl (r_assign hE rfl) (fun a hE => ?_)
  refine t_nil ?_
  refine hK_1 _ _ ?_
  refine w_seq (fun K hK_2 => ?_)
  refine w_seq (fun K hK_3 => ?_)
  refine t_region ?_
  refine t_val (v := (x0 : Sl).v) rfl rfl hE rfl (r_move hE rfl) (fun a hE => ?_)
  refine t_val (v := .bool ((x0).base.isNone)) rfl rfl hE rfl (r_bin hE rfl rfl (g_sl (v := Sl.nil)) (b_eqlL un22)) (fun a hE => ?_)
  refine t_nil ?_
  refine hK_3 _ _ ?_
  refine w_cond ((x0).base.isNone) hE rfl (fun hb => ?_) (fun hb => ?_)
  · replace H := M.ite_t hb H
    refine w_seq (fun K hK_4 => ?_)
    refine t_region ?_
    refine t_val (v := (Sl.nil : Sl).v) rfl rfl hE rfl (r_assign hE rfl) (fun a hE => ?_)
    refine t_nil ?_
    refine hK_4 _ _ ?_
    refine w_ret ?_
    exact hret _ _ _ Sl.nil _ hE hR (res_run hE rfl (RV.tmp rfl RV.nil)) rfl H
  · replace H := M.ite_f hb H
    refine w_skip ?_
    refine hK_2 _ _ ?_
    refine w_seq (fun K hK_5 => ?_)
    refine t_region ?_
    obtain ⟨x5_6, qx5_6, H⟩ := H
    refine t_valh (v := (x5_6 : Sl).v) rfl rfl hE rfl hR (r_buildL (cells := #[]) hE rfl un22 sz5 zr5 rfl rfl qx5_6) (fun a w hE hR hh => ?_)
    replace H := M.at hh H; clear hh
    refine t_val (v := (x0 : Sl).v) rfl rfl hE rfl (r_move hE rfl) (fun a hE => ?_)
    refine t_ex (fun x7_7 => (x7_7 : Sl).v) rfl rfl hR (M.unbind H) (fun Q H => ap_run hE rfl rfl ap22 H) (fun x7_7 a w ea hR H => ?_)
    have hE := Env.put_some hE rfl ea; clear ea
    refine t_val (v := (x7_7 : Sl).v) rfl rfl hE rfl (r_assign hE rfl) (fun a hE => ?_)
    refine t_nil ?_
    refine hK_5 _ _ ?_
    refine w_ret ?_
    exact hret _ _ _ x7_7 _ hE hR (res_run hE rfl (RV.tmp rfl RV.nil)) rfl H

end Gx
namespace Gx
open Go
set_option linter.unusedVariables false
set_option maxRecDepth 100000
/-- ramble/sector.Open -/
theorem tb10_4 : tabAt Go.Proofs.Try.f10 4 [[], [0], [1], [], [3], [4], [5], [2, 6], [], [8, 7, 6, 0, 1, 2, 3, 4, 5, 6, 7, 8]] [[], [0], [1], [], [3], [4], [5], [2, 6], [], [7, 8]] [[], [0], [0, 1], [], [3], [3, 4], [3, 4, 5], [0, 1, 2, 3, 4, 5, 6], [], [0, 1, 2, 3, 4, 5, 6, 7, 8]] = true := by kernel_rfl
def sector_Open_l1 (c1_28 : Addr) (c2_29 : Addr) (c5_30 : Addr) (c25_31 : Sl) (c26_32 : Int) (self1 : (Int × Int) → M (Array Value × Int)) : (Int × Int) → M (Array Value × Int) := fun s => match s with
  | (x6_26, x27_27) => do
    M.ite (decide (x27_27 < c26_32)) (do
      let x29_38 ← ixL c25_31 x27_27 1
      let x30_39 ← ldI .u8 x29_38
      self1 (iOr .u64 (iShl .u64 x6_26 8) (IntKind.wrap .u64 x30_39), IntKind.wrap .i64 (x27_27 + 1))
      ) (do
      stV ((c5_30).add 1) (.int .i64 (IntKind.wrap .i64 x6_26))
      let x41_44 ← ldG 3 c5_30
      let x42_45 ← sector_Seal x41_44
      let x9_46 ← mkB ty_api_Sector (Array.replicate 128 (.int .u8 0) : Array Value)
      M.need (x42_45.1.size = 128)
      stG x9_46 x42_45.1
      let x51_49 ← M.ite (x42_45.2 != 0) (do
        M.pure true
        ) (do
        let x48_50 ← ldG 128 x9_46
        let x49_51 ← ldG 128 c1_28
        let x50_52 ← eqA .u8 128 x48_50 x49_51
        M.pure (!x50_52)
        )
      M.ite x51_49 (do
        M.need ((#[.int .i64 0, .int .i64 0, .slice none 0 0] : Array Value).size = 3)
        stG c2_29 (#[.int .i64 0, .int .i64 0, .slice none 0 0] : Array Value)
        let r2_55 ← ldG 3 c2_29
        M.pure (r2_55, 50)
        ) (do
        let x53_57 ← ldG 3 c5_30
        M.need (x53_57.size = 3)
        stG c2_29 x53_57
        let r2_59 ← ldG 3 c2_29
        M.pure (r2_59, 0)
        )
      )
def sector_Open (x0 : Array Value) : M (Array Value × Int) := do
  let x1_2 ← mkB ty_api_Sector x0
  let x2_3 ← mkB ty_api_Frame (#[.int .i64 0, .int .i64 0, .slice none 0 0] : Array Value)
  let x11_5 ← ixA x1_2 128 1 1
  let x12_6 ← ldI .u8 x11_5
  M.ite (decide ((IntKind.wrap .i64 x12_6) > 112)) (do
    M.need ((#[.int .i64 0, .int .i64 0, .slice none 0 0] : Array Value).size = 3)
    stG x2_3 (#[.int .i64 0, .int .i64 0, .slice none 0 0] : Array Value)
    let r2_11 ← ldG 3 x2_3
    M.pure (r2_11, 50)
    ) (do
    let x17_13 ← ixA x1_2 128 0 1
    let x22_14 ← slA x1_2 128 10 (IntKind.wrap .i64 (10 + (IntKind.wrap .i64 x12_6))) 1
    let x18_15 ← ldI .u8 x17_13
    let y_20 ← do
      M.both (do
        let x23_16 ← slices_Clone_byte_byte x22_14
        chk (fun h : Heap => (hcell h x17_13 = some (.int .u8 x18_15)))
        let x5_17 ← mkB ty_api_Frame (#[.int .i64 0, .int .i64 0, .slice none 0 0] : Array Value)
        chk (fun h : Heap => (hcell h x17_13 = some (.int .u8 x18_15)))
        M.pure (x5_17, x23_16, (#[.int .i64 (IntKind.wrap .i64 x18_15), .int .i64 0, (x23_16 : Sl).v] : Array Value))
        ) (do
        let x5_18 ← mkB ty_api_Frame (#[.int .i64 0, .int .i64 0, .slice none 0 0] : Array Value)
        chk (fun h : Heap => (hcell h x17_13 = some (.int .u8 x18_15)))
        let x23_19 ← slices_Clone_byte_byte x22_14
        chk (fun h : Heap => (hcell h x17_13 = some (.int .u8 x18_15)))
        M.pure (x5_18, x23_19, (#[.int .i64 (IntKind.wrap .i64 x18_15), .int .i64 0, (x23_19 : Sl).v] : Array Value))
        )
    M.need (y_20.2.2.size = 3)
    stG y_20.1 y_20.2.2
    let x25_25 ← slA x1_2 128 2 10 1
    M.loop (sector_Open_l1 x1_2 x2_3 y_20.1 x25_25 (x25_25.len : Int)) (0, 0)
    )
theorem S_sector_Open (x0 : Array Value) : Sound Go.Proofs.Try.prog 10 #[.agg x0] (fun (r : Array Value × Int) => .tuple #[.agg r.1, .int .i64 r.2]) (sector_Open x0) := by
  refine sound_of [(0, .agg x0)] Go.Proofs.Try.func10 rfl rfl (Nat.le_of_ble_eq_true rfl) (args_of ⟨rfl, trivial⟩) (fun w0 w Q R a hret hE hR H => ?_)
  unfold sector_Open at H
  refine w_seq (fun K hK_1 => ?_)
  refine t_region ?_
  obtain ⟨x1_2, qx1_2, H⟩ := H
  refine t_valh (v := .pointer (some x1_2)) rfl rfl hE rfl hR (r_box hE rfl qx1_2) (fun a w hE hR hh => ?_)
  replace H := M.at hh H; clear hh
  obtain ⟨x2_3, qx2_3, H⟩ := H
  refine t_valh (v := .pointer (some x2_3)) rfl rfl hE rfl hR (r_alloc zr24 qx2_3) (fun a w hE hR hh => ?_)
  replace H := M.at hh H; clear hh
  refine t_val (v := .int .i64 0) rfl rfl hE rfl (r_assign hE rfl) (fun a hE => ?_)
  refine t_nil ?_
  refine hK_1 _ _ ?_
  refine w_seq (fun K hK_4 => ?_)
  refine t_region ?_
  obtain ⟨x11_5, qx11_5, H⟩ := H
  refine t_val (v := .pointer (some x11_5)) rfl rfl hE rfl (r_indexAddrA hE rfl rfl un26 sz5 qx11_5) (fun a hE => ?_)
  obtain ⟨x12_6, qx12_6, H⟩ := H
  refine t_val (v := .int .u8 x12_6) rfl rfl hE rfl (r_load hE rfl sc5 qx12_6) (fun a hE => ?_)
  refine t_val (v := .int .i64 (IntKind.wrap .i64 x12_6)) rfl rfl hE rfl (r_convI hE rfl un5 un3) (fun a hE => ?_)
  refine t_val (v := .int .i64 (IntKind.wrap .i64 x12_6)) rfl rfl hE rfl (r_assign hE rfl) (fun a hE => ?_)
  refine t_nil ?_
  refine hK_4 _ _ ?_
  refine w_seq (fun K hK_7 => ?_)
  refine w_seq (fun K hK_8 => ?_)
  refine t_region ?_
  refine t_val (v := .int .i64 (IntKind.wrap .i64 x12_6)) rfl rfl hE rfl (r_move hE rfl) (fun a hE => ?_)
  refine t_val (v := .bool (decide ((IntKind.wrap .i64 x12_6) > 112))) rfl rfl hE rfl (r_bin hE rfl rfl g_int b_gtr) (fun a hE => ?_)
  refine t_nil ?_
  refine hK_8 _ _ ?_
  refine w_cond (decide ((IntKind.wrap .i64 x12_6) > 112)) hE rfl (fun hb => ?_) (fun hb => ?_)
  · replace H := M.ite_t hb H
    refine w_seq (fun K hK_9 => ?_)
    refine t_region ?_
    refine t_val (v := .agg (#[.int .i64 0, .int .i64 0, .slice none 0 0] : Array Value)) rfl rfl hE rfl (r_build0 bd24) (fun a hE => ?_)
    obtain ⟨qz, H⟩ := H
    obtain ⟨u_10, qu_10, H⟩ := H
    refine t_sth rfl rfl hE hR (r_storeG hE rfl rfl sz24 qz qu_10) (fun a w hE hR hh => ?_)
    replace H := M.at hh H; clear hh
    refine t_val (v := .int .i64 50) rfl rfl hE rfl (r_assign hE rfl) (fun a hE => ?_)
    refine t_nil ?_
    refine hK_9 _ _ ?_
    refine w_ret ?_
    obtain ⟨r2_11, qr2_11, H⟩ := H
    exact hret _ _ _ (r2_11, 50) _ hE hR (res_run hE rfl (RV.cellG rfl ag24 qr2_11 (RV.tmp rfl RV.nil))) rfl H
  · replace H := M.ite_f hb H
    refine w_skip ?_
    refine hK_7 _ _ ?_
    refine w_seq (fun K hK_12 => ?_)
    obtain ⟨x17_13, qx17_13, H⟩ := H
    obtain ⟨x22_14, qx22_14, H⟩ := H
    obtain ⟨x18_15, qx18_15, H⟩ := H
    have hT := tab_of tb10_4 rfl rfl
    refine d_start (fun w : World => (fun h : Heap => (hcell h x17_13 = some (.int .u8 x18_15))) w.heap) [2, 7, 9] #[false, false, false, false, false, false, false, false, false, false] mo hR rfl rfl (fun w' e => by rw [e]; exact qx18_15) (fun w hh hR hs => ?_)
    replace H := M.at hh H; clear hh
    refine d_pureg (i := 0) (v := .pointer (some x17_13)) #[true, false, false, false, false, false, false, false, false, false] rfl rfl hT (by kernel_rfl) hE rfl (wanted_none rfl) (fun w => r_indexAddrA hE rfl rfl un26 sz5 qx17_13) (fun a hE => ?_)
    refine d_pureg (i := 3) (v := .int .i64 (IntKind.wrap .i64 x12_6)) #[true, false, false, true, false, false, false, false, false, false] rfl rfl hT (by kernel_rfl) hE rfl (wanted_none rfl) (fun w => r_move hE rfl) (fun a hE => ?_)
    refine d_pureg (i := 4) (v := .int .i64 (IntKind.wrap .i64 (10 + (IntKind.wrap .i64 x12_6)))) #[true, false, false, true, true, false, false, false, false, false] rfl rfl hT (by kernel_rfl) hE rfl (wanted_none rfl) (fun w => r_bin hE rfl rfl g_int b_add) (fun a hE => ?_)
    refine d_pureg (i := 5) (v := (x22_14 : Sl).v) #[true, false, false, true, true, true, false, false, false, false] rfl rfl hT (by kernel_rfl) hE rfl (wanted_none rfl) (fun w => r_sliceA_lh hE rfl rfl rfl un26 sz5 qx22_14) (fun a hE => ?_)
    refine d_read (i := 1) (v := .int .u8 x18_15) #[true, true, false, true, true, true, false, false, false, false] rfl rfl hT (by kernel_rfl) hE rfl (wanted_none rfl) hs (fun w s => r_load hE rfl sc5 s) (fun a hE => ?_)
    refine d_pureg (i := 2) (v := .int .i64 (IntKind.wrap .i64 x18_15)) #[true, true, true, true, true, true, false, false, false, false] rfl rfl hT (by kernel_rfl) hE rfl (wanted_none rfl) (fun w => r_convI hE rfl un5 un3) (fun a hE => ?_)
    refine d_join (n := (⟨54, []⟩ : Frm)) (w0 := w0) (fun y_20 : Addr × Sl × Array Value => [(0, .agg x0), (1, .pointer (some x1_2)), (2, .pointer (some x2_3)), (3, .int .i64 0), (11, .pointer (some x11_5)), (12, .int .u8 x12_6), (13, .int .i64 (IntKind.wrap .i64 x12_6)), (4, .int .i64 (IntKind.wrap .i64 x12_6)), (14, .int .i64 (IntKind.wrap .i64 x12_6)), (15, .bool (decide ((IntKind.wrap .i64 x12_6) > 112))), (17, .pointer (some x17_13)), (20, .int .i64 (IntKind.wrap .i64 x12_6)), (21, .int .i64 (IntKind.wrap .i64 (10 + (IntKind.wrap .i64 x12_6)))), (22, (x22_14 : Sl).v), (18, .int .u8 x18_15), (19, .int .i64 (IntKind.wrap .i64 x18_15)), (5, .pointer (some y_20.1)), (23, (y_20.2.1 : Sl).v), (24, .agg y_20.2.2)]) 1 #[true, true, true, true, true, true, true, true, true, false] (M.unbind H) ?_ ?_
    · intro y_20 a w hE hR H
      obtain ⟨qz, H⟩ := H
      obtain ⟨u_21, qu_21, H⟩ := H
      refine d_stlh (i := 9) #[true, true, true, true, true, true, true, true, true, true] rfl rfl hT (by kernel_rfl) rfl hE hR (wanted_none rfl) (r_storeG hE rfl rfl sz24 qz qu_21)  (fun a w hE hR hh => ?_)
      replace H := M.at hh H; clear hh
      refine d_done hT (by kernel_rfl) ?_
      refine hK_12 _ _ ?_
      refine w_seq (fun K hK_22 => ?_)
      refine t_region ?_
      refine t_val (v := .int .u64 0) rfl rfl hE rfl (r_assign hE rfl) (fun a hE => ?_)
      refine t_nil ?_
      refine hK_22 _ _ ?_
      refine w_seq (fun K hK_23 => ?_)
      refine w_seq (fun K hK_24 => ?_)
      refine t_region ?_
      obtain ⟨x25_25, qx25_25, H⟩ := H
      refine t_val (v := (x25_25 : Sl).v) rfl rfl hE rfl (r_sliceA_lh hE rfl rfl rfl un26 sz5 qx25_25) (fun a hE => ?_)
      refine t_val (v := .int .i64 (x25_25.len : Int)) rfl rfl hE rfl (r_len hE rfl 5 un22) (fun a hE => ?_)
      refine t_val (v := .int .i64 0) rfl rfl hE rfl (r_move hE rfl) (fun a hE => ?_)
      refine t_nil ?_
      refine hK_24 _ _ ?_
      refine w_block ?_
      refine l_loop (fun (s : Int × Int) => (⟨54, []⟩ : Frm)) (fun (s : Int × Int) => [(1, .pointer (some x1_2)), (2, .pointer (some x2_3)), (5, .pointer (some y_20.1)), (6, .int .u64 s.1), (25, (x25_25 : Sl).v), (26, .int .i64 (x25_25.len : Int)), (27, .int .i64 s.2)]) H (hE.cut (.cons rfl (.cons rfl (.cons rfl (.cons rfl (.cons rfl (.cons rfl (.cons rfl Subs.nil)))))))) hR (fun Y self1 hY_33 s a w hE hR H => ?_)
      rcases s with ⟨x6_26, x27_27⟩
      replace hE : Env (⟨54, []⟩ : Frm) a [(1, .pointer (some x1_2)), (2, .pointer (some x2_3)), (5, .pointer (some y_20.1)), (6, .int .u64 x6_26), (25, (x25_25 : Sl).v), (26, .int .i64 (x25_25.len : Int)), (27, .int .i64 x27_27)] := hE
      replace H : (sector_Open_l1 x1_2 x2_3 y_20.1 x25_25 (x25_25.len : Int) self1 (x6_26, x27_27)).wp w.heap Q := H
      unfold sector_Open_l1 at H
      refine w_seq (fun K hK_34 => ?_)
      refine t_region ?_
      refine t_val (v := .bool (decide (x27_27 < (x25_25.len : Int)))) rfl rfl hE rfl (r_bin hE rfl rfl g_int b_lss) (fun a hE => ?_)
      refine t_nil ?_
      refine hK_34 _ _ ?_
      refine w_seq (fun K hK_35 => ?_)
      refine w_cond (decide (x27_27 < (x25_25.len : Int))) hE rfl (fun hb => ?_) (fun hb => ?_)
      · replace H := M.ite_t hb H
        refine w_skip ?_
        refine hK_35 _ _ ?_
        refine w_seq (fun K hK_36 => ?_)
        refine w_block ?_
        refine w_seq (fun K hK_37 => ?_)
        refine t_region ?_
        obtain ⟨x29_38, qx29_38, H⟩ := H
        refine t_val (v := .pointer (some x29_38)) rfl rfl hE rfl (r_indexAddrL hE rfl rfl un22 sz5 qx29_38) (fun a hE => ?_)
        obtain ⟨x30_39, qx30_39, H⟩ := H
        refine t_val (v := .int .u8 x30_39) rfl rfl hE rfl (r_load hE rfl sc5 qx30_39) (fun a hE => ?_)
        refine t_val (v := .int .u8 x30_39) rfl rfl hE rfl (r_assign hE rfl) (fun a hE => ?_)
        refine t_nil ?_
        refine hK_37 _ _ ?_
        refine t_region ?_
        refine t_val (v := .int .u64 x6_26) rfl rfl hE rfl (r_move hE rfl) (fun a hE => ?_)
        refine t_val (v := .int .u64 (iShl .u64 x6_26 8)) rfl rfl hE rfl (r_bin hE rfl rfl g_int (b_shl ⟨by decide, rfl⟩)) (fun a hE => ?_)
        refine t_val (v := .int .u8 x30_39) rfl rfl hE rfl (r_move hE rfl) (fun a hE => ?_)
        refine t_val (v := .int .u64 (IntKind.wrap .u64 x30_39)) rfl rfl hE rfl (r_convI hE rfl un5 un67) (fun a hE => ?_)
        refine t_val (v := .int .u64 (iOr .u64 (iShl .u64 x6_26 8) (IntKind.wrap .u64 x30_39))) rfl rfl hE rfl (r_bin hE rfl rfl g_int b_or) (fun a hE => ?_)
        refine t_val (v := .int .u64 (iOr .u64 (iShl .u64 x6_26 8) (IntKind.wrap .u64 x30_39))) rfl rfl hE rfl (r_assign hE rfl) (fun a hE => ?_)
        refine t_nil ?_
        refine hK_36 _ _ ?_
        refine t_region ?_
        refine t_val (v := .int .i64 (IntKind.wrap .i64 (x27_27 + 1))) rfl rfl hE rfl (r_bin hE rfl rfl g_int b_add) (fun a hE => ?_)
        refine t_val (v := .int .i64 (IntKind.wrap .i64 (x27_27 + 1))) rfl rfl hE rfl (r_move hE rfl) (fun a hE => ?_)
        refine t_nil ?_
        exact hY_33 (iOr .u64 (iShl .u64 x6_26 8) (IntKind.wrap .u64 x30_39), IntKind.wrap .i64 (x27_27 + 1)) _ _ (hE.cut (.cons rfl (.cons rfl (.cons rfl (.cons rfl (.cons rfl (.cons rfl (.cons rfl Subs.nil)))))))) hR H
      · replace H := M.ite_f hb H
        refine w_exit ?_
        refine Xu.same ?_
        refine hK_23 _ _ ?_
        refine w_seq (fun K hK_40 => ?_)
        refine t_region ?_
        refine t_val (v := .int .u64 x6_26) rfl rfl hE rfl (r_move hE rfl) (fun a hE => ?_)
        refine t_val (v := .int .i64 (IntKind.wrap .i64 x6_26)) rfl rfl hE rfl (r_convI hE rfl un67 un2) (fun a hE => ?_)
        refine t_val (v := .pointer (some ((y_20.1).add 1))) rfl rfl hE rfl (r_fieldAddr hE rfl fd24_1) (fun a hE => ?_)
        obtain ⟨u_41, qu_41, H⟩ := H
        refine t_sth rfl rfl hE hR (r_store hE rfl rfl sz2 qu_41) (fun a w hE hR hh => ?_)
        replace H := M.at hh H; clear hh
        refine t_nil ?_
        refine hK_40 _ _ ?_
        refine w_seq (fun K hK_42 => ?_)
        refine w_seq (fun K hK_43 => ?_)
        refine t_region ?_
        obtain ⟨x41_44, qx41_44, H⟩ := H
        refine t_val (v := .agg x41_44) rfl rfl hE rfl (r_loadG hE rfl ag24 qx41_44) (fun a hE => ?_)
        refine t_call hE hR cl_sector_Seal rfl (S_sector_Seal x41_44) (M.unbind H) (fun x42_45 a w ea hR H => ?_)
        have hE := Env.put_some hE rfl ea; clear ea
        refine t_val (v := .tuple #[.agg x42_45.1, .int .i64 x42_45.2]) rfl rfl hE rfl (r_move hE rfl) (fun a hE => ?_)
        refine t_val (v := .agg x42_45.1) rfl rfl hE rfl (r_extract hE rfl rfl) (fun a hE => ?_)
        refine t_val (v := .int .i64 x42_45.2) rfl rfl hE rfl (r_extract hE rfl rfl) (fun a hE => ?_)
        obtain ⟨x9_46, qx9_46, H⟩ := H
        refine t_valh (v := .pointer (some x9_46)) rfl rfl hE rfl hR (r_alloc zr26 qx9_46) (fun a w hE hR hh => ?_)
        replace H := M.at hh H; clear hh
        obtain ⟨qz, H⟩ := H
        obtain ⟨u_47, qu_47, H⟩ := H
        refine t_sth rfl rfl hE hR (r_storeG hE rfl rfl sz26 qz qu_47) (fun a w hE hR hh => ?_)
        replace H := M.at hh H; clear hh
        refine t_val (v := .int .i64 x42_45.2) rfl rfl hE rfl (r_assign hE rfl) (fun a hE => ?_)
        refine t_nil ?_
        refine hK_43 _ _ ?_
        refine w_seq (fun K hK_48 => ?_)
        refine t_region ?_
        refine t_val (v := .int .i64 x42_45.2) rfl rfl hE rfl (r_move hE rfl) (fun a hE => ?_)
        refine t_val (v := .bool (x42_45.2 != 0)) rfl rfl hE rfl (r_bin hE rfl rfl g_int b_neq) (fun a hE => ?_)
        refine t_val (v := .bool (x42_45.2 != 0)) rfl rfl hE rfl (r_move hE rfl) (fun a hE => ?_)
        refine t_grp (n := (⟨54, []⟩ : Frm)) (w0 := w0) 4 (fun x51_49 : Bool => [(2, .pointer (some x2_3)), (5, .pointer (some y_20.1)), (51, .bool x51_49)]) (M.unbind H) (fun Kr hKr H => ?_) ?_
        · rcases bool_em (x42_45.2 != 0) with hb | hb
          · replace H := M.ite_t hb H
            have hE := hE.reb 47 (x42_45.2 != 0) true hb rfl
            refine t_off rfl hE rfl rfl rfl (fun a ea => ?_)
            have hE := Env.put_some hE rfl ea; clear ea
            refine t_off rfl hE rfl rfl rfl (fun a ea => ?_)
            have hE := Env.put_some hE rfl ea; clear ea
            refine t_off rfl hE rfl rfl rfl (fun a ea => ?_)
            have hE := Env.put_some hE rfl ea; clear ea
            refine t_val rfl rfl hE rfl (r_pick_t hE rfl rfl) (fun a hE => ?_)
            refine t_nil ?_
            exact hKr _ _ _ (hE.cut (.cons rfl (.cons rfl (.cons rfl Subs.nil)))) hR H
          · replace H := M.ite_f hb H
            have hE := hE.reb 47 (x42_45.2 != 0) false hb rfl
            refine t_on rfl hE rfl rfl rfl ?_
            obtain ⟨x48_50, qx48_50, H⟩ := H
            refine t_val (v := .agg x48_50) rfl rfl hE rfl (r_loadG hE rfl ag26 qx48_50) (fun a hE => ?_)
            refine t_on rfl hE rfl rfl rfl ?_
            obtain ⟨x49_51, qx49_51, H⟩ := H
            refine t_val (v := .agg x49_51) rfl rfl hE rfl (r_loadG hE rfl ag26 qx49_51) (fun a hE => ?_)
            refine t_on rfl hE rfl rfl rfl ?_
            obtain ⟨x50_52, qx50_52, H⟩ := H
            refine t_val (v := .bool (!x50_52)) rfl rfl hE rfl (r_bin hE rfl rfl (g_agg eg26) (b_neqA un26 un5 sz5 qx50_52)) (fun a hE => ?_)
            refine t_val rfl rfl hE rfl (r_pick_f hE rfl rfl) (fun a hE => ?_)
            refine t_nil ?_
            exact hKr _ _ _ (hE.cut (.cons rfl (.cons rfl (.cons rfl Subs.nil)))) hR H
        · intro x51_49 a w hE hR H
          refine t_nil ?_
          refine hK_48 _ _ ?_
          refine w_cond x51_49 hE rfl (fun hb => ?_) (fun hb => ?_)
          · replace H := M.ite_t hb H
            refine w_seq (fun K hK_53 => ?_)
            refine t_region ?_
            refine t_val (v := .agg (#[.int .i64 0, .int .i64 0, .slice none 0 0] : Array Value)) rfl rfl hE rfl (r_build0 bd24) (fun a hE => ?_)
            obtain ⟨qz, H⟩ := H
            obtain ⟨u_54, qu_54, H⟩ := H
            refine t_sth rfl rfl hE hR (r_storeG hE rfl rfl sz24 qz qu_54) (fun a w hE hR hh => ?_)
            replace H := M.at hh H; clear hh
            refine t_val (v := .int .i64 50) rfl rfl hE rfl (r_assign hE rfl) (fun a hE => ?_)
            refine t_nil ?_
            refine hK_53 _ _ ?_
            refine w_ret ?_
            obtain ⟨r2_55, qr2_55, H⟩ := H
            exact hret _ _ _ (r2_55, 50) _ hE hR (res_run hE rfl (RV.cellG rfl ag24 qr2_55 (RV.tmp rfl RV.nil))) rfl H
          · replace H := M.ite_f hb H
            refine w_skip ?_
            refine hK_42 _ _ ?_
            refine w_seq (fun K hK_56 => ?_)
            refine t_region ?_
            obtain ⟨x53_57, qx53_57, H⟩ := H
            refine t_val (v := .agg x53_57) rfl rfl hE rfl (r_loadG hE rfl ag24 qx53_57) (fun a hE => ?_)
            obtain ⟨qz, H⟩ := H
            obtain ⟨u_58, qu_58, H⟩ := H
            refine t_sth rfl rfl hE hR (r_storeG hE rfl rfl sz24 qz qu_58) (fun a w hE hR hh => ?_)
            replace H := M.at hh H; clear hh
            refine t_val (v := .int .i64 0) rfl rfl hE rfl (r_assign hE rfl) (fun a hE => ?_)
            refine t_nil ?_
            refine hK_56 _ _ ?_
            refine w_ret ?_
            obtain ⟨r2_59, qr2_59, H⟩ := H
            exact hret _ _ _ (r2_59, 0) _ hE hR (res_run hE rfl (RV.cellG rfl ag24 qr2_59 (RV.tmp rfl RV.nil))) rfl H
    · intro hj H
      refine d_pick [6, 8] hT (by kernel_rfl) rfl (fun i hi => ?_)
      simp only [List.mem_cons, List.not_mem_nil, or_false] at hi
      rcases hi with rfl | rfl
      · replace H := H.1
        refine p_call (S := fun w : World => (fun h : Heap => (hcell h x17_13 = some (.int .u8 x18_15))) w.heap) (i := 6) #[true, true, true, true, true, true, true, false, false, false] rfl rfl rfl (by kernel_rfl) hE hR (wanted_none rfl) cl_slices_Clone_byte_byte rfl (S_slices_Clone_byte_byte x22_14) (M.unbind H) (fun r h H w' e => by obtain ⟨_, sA, H⟩ := H; rw [e]; exact sA) (fun x23_16 a w ea hR H hs => ?_)
        obtain ⟨_, sA, H⟩ := H; clear sA
        have hE := Env.put_some hE rfl ea; clear ea
        refine d_pureg (i := 7) (v := .agg (#[.int .i64 (IntKind.wrap .i64 x18_15), .int .i64 0, (x23_16 : Sl).v] : Array Value)) #[true, true, true, true, true, true, true, true, false, false] rfl rfl hT (by kernel_rfl) hE rfl (wanted_none rfl) (fun w => r_build hE rfl zr24 pl24 (by rfl)) (fun a hE => ?_)
        obtain ⟨x5_17, qx5_17, H⟩ := H
        obtain ⟨_, sA, H⟩ := H
        refine d_oneh (i := 8) (v := .pointer (some x5_17)) #[true, true, true, true, true, true, true, true, true, false] rfl rfl hT (by kernel_rfl) rfl hE hR rfl (wanted_none rfl) (r_alloc zr24 qx5_17)  (fun w' e => by rw [e]; exact sA) (fun a w hE hR hh hs => ?_)
        replace H := M.at hh H; clear hh
        exact hj _ _ _ (hE.cut (.cons rfl (.cons rfl (.cons rfl (.cons rfl (.cons rfl (.cons rfl (.cons rfl (.cons rfl (.cons rfl (.cons rfl (.cons rfl (.cons rfl (.cons rfl (.cons rfl (.cons rfl (.cons rfl (.cons rfl (.cons rfl (.cons rfl Subs.nil)))))))))))))))))))) hR H
      · replace H := H.2
        obtain ⟨x5_18, qx5_18, H⟩ := H
        obtain ⟨_, sA, H⟩ := H
        refine p_valh (S := fun w : World => (fun h : Heap => (hcell h x17_13 = some (.int .u8 x18_15))) w.heap) (i := 8) (v := .pointer (some x5_18)) #[true, true, true, true, true, true, false, false, true, false] rfl rfl (by kernel_rfl) hE hR rfl (wanted_none rfl) (r_alloc zr24 qx5_18)  (fun w' e => by rw [e]; exact sA) (fun a w hE hR hh hs => ?_)
        replace H := M.at hh H; clear hh
        refine d_call (i := 6) #[true, true, true, true, true, true, true, false, true, false] rfl rfl rfl hT (by kernel_rfl) rfl hE hR (wanted_none rfl) cl_slices_Clone_byte_byte rfl (S_slices_Clone_byte_byte x22_14) (M.unbind H) (fun r h H w' e => by obtain ⟨_, sA, H⟩ := H; rw [e]; exact sA) (fun x23_19 a w ea hR H hs => ?_)
        obtain ⟨_, sA, H⟩ := H; clear sA
        have hE := Env.put_some hE rfl ea; clear ea
        refine d_pureg (i := 7) (v := .agg (#[.int .i64 (IntKind.wrap .i64 x18_15), .int .i64 0, (x23_19 : Sl).v] : Array Value)) #[true, true, true, true, true, true, true, true, true, false] rfl rfl hT (by kernel_rfl) hE rfl (wanted_none rfl) (fun w => r_build hE rfl zr24 pl24 (by rfl)) (fun a hE => ?_)
        exact hj _ _ _ (hE.cut (.cons rfl (.cons rfl (.cons rfl (.cons rfl (.cons rfl (.cons rfl (.cons rfl (.cons rfl (.cons rfl (.cons rfl (.cons rfl (.cons rfl (.cons rfl (.cons rfl (.cons rfl (.cons rfl (.cons rfl (.cons rfl (.cons rfl Subs.nil)))))))))))))))))))) hR H

/-- ramble/rambleref05.Same -/
def rambleref05_Same (x0 : Array Value) (x1 : Array Value) : M (Bool) := do
  let x2_2 ← mkB ty_api_Frame x0
  let x3_3 ← mkB ty_api_Frame x1
  let x6_5 ← ldI .i64 ((x2_2).add 0)
  let x8_6 ← ldI .i64 ((x3_3).add 0)
  let x16_7 ← M.ite (x6_5 == x8_6) (do
    let x12_8 ← ldI .i64 ((x2_2).add 1)
    let x14_9 ← ldI .i64 ((x3_3).add 1)
    M.pure (x12_8 == x14_9)
    ) (do
    M.pure false
    )
  let x25_10 ← M.ite x16_7 (do
    let x19_11 ← ldL ((x2_2).add 2)
    let x20_12 ← b2s x19_11
    let x22_13 ← ldL ((x3_3).add 2)
    let x23_14 ← b2s x22_13
    M.pure (sEq x20_12 x23_14)
    ) (do
    M.pure false
    )
  M.pure x25_10
theorem S_rambleref05_Same (x0 : Array Value) (x1 : Array Value) : Sound Go.Proofs.Try.prog 13 #[.agg x0, .agg x1] (fun (r : Bool) => .bool r) (rambleref05_Same x0 x1) := by
  refine sound_of [(0, .agg x0), (1, .agg x1)] Go.Proofs.Try.func13 rfl rfl (Nat.le_of_ble_eq_true rfl) (args_of ⟨rfl, rfl, trivial⟩) (fun w0 w Q R a hret hE hR H => ?_)
  unfold rambleref05_Same at H
  refine w_seq (fun K hK_1 => ?_)
  refine t_region ?_
  obtain ⟨x2_2, qx2_2, H⟩ := H
  refine t_valh (v := .pointer (some x2_2)) rfl rfl hE rfl hR (r_box hE rfl qx2_2) (fun a w hE hR hh => ?_)
  replace H := M.at hh H; clear hh
  obtain ⟨x3_3, qx3_3, H⟩ := H
  refine t_valh (v := .pointer (some x3_3)) rfl rfl hE rfl hR (r_box hE rfl qx3_3) (fun a w hE hR hh => ?_)
  replace H := M.at hh H; clear hh
  refine t_val (v := .bool false) rfl rfl hE rfl (r_assign hE rfl) (fun a hE => ?_)
  refine t_nil ?_
  refine hK_1 _ _ ?_
  refine w_seq (fun K hK_4 => ?_)
  refine t_region ?_
  refine t_val (v := .pointer (some ((x2_2).add 0))) rfl rfl hE rfl (r_fieldAddr hE rfl fd24_0) (fun a hE => ?_)
  obtain ⟨x6_5, qx6_5, H⟩ := H
  refine t_val (v := .int .i64 x6_5) rfl rfl hE rfl (r_load hE rfl sc3 qx6_5) (fun a hE => ?_)
  refine t_val (v := .pointer (some ((x3_3).add 0))) rfl rfl hE rfl (r_fieldAddr hE rfl fd24_0) (fun a hE => ?_)
  obtain ⟨x8_6, qx8_6, H⟩ := H
  refine t_val (v := .int .i64 x8_6) rfl rfl hE rfl (r_load hE rfl sc3 qx8_6) (fun a hE => ?_)
  refine t_val (v := .bool (x6_5 == x8_6)) rfl rfl hE rfl (r_bin hE rfl rfl g_int b_eql) (fun a hE => ?_)
  refine t_val (v := .bool (x6_5 == x8_6)) rfl rfl hE rfl (r_move hE rfl) (fun a hE => ?_)
  refine t_grp (n := (⟨26, []⟩ : Frm)) (w0 := w0) 6 (fun x16_7 : Bool => [(2, .pointer (some x2_2)), (3, .pointer (some x3_3)), (4, .bool false), (16, .bool x16_7)]) (M.unbind H) (fun Kr hKr H => ?_) ?_
  · rcases bool_em (x6_5 == x8_6) with hb | hb
    · replace H := M.ite_t hb H
      have hE := hE.reb 10 (x6_5 == x8_6) true hb rfl
      refine t_on rfl hE rfl rfl rfl ?_
      refine t_val (v := .pointer (some ((x2_2).add 1))) rfl rfl hE rfl (r_fieldAddr hE rfl fd24_1) (fun a hE => ?_)
      refine t_on rfl hE rfl rfl rfl ?_
      obtain ⟨x12_8, qx12_8, H⟩ := H
      refine t_val (v := .int .i64 x12_8) rfl rfl hE rfl (r_load hE rfl sc2 qx12_8) (fun a hE => ?_)
      refine t_on rfl hE rfl rfl rfl ?_
      refine t_val (v := .pointer (some ((x3_3).add 1))) rfl rfl hE rfl (r_fieldAddr hE rfl fd24_1) (fun a hE => ?_)
      refine t_on rfl hE rfl rfl rfl ?_
      obtain ⟨x14_9, qx14_9, H⟩ := H
      refine t_val (v := .int .i64 x14_9) rfl rfl hE rfl (r_load hE rfl sc2 qx14_9) (fun a hE => ?_)
      refine t_on rfl hE rfl rfl rfl ?_
      refine t_val (v := .bool (x12_8 == x14_9)) rfl rfl hE rfl (r_bin hE rfl rfl g_int b_eql) (fun a hE => ?_)
      refine t_val rfl rfl hE rfl (r_pick_t hE rfl rfl) (fun a hE => ?_)
      refine t_nil ?_
      exact hKr _ _ _ (hE.cut (.cons rfl (.cons rfl (.cons rfl (.cons rfl Subs.nil))))) hR H
    · replace H := M.ite_f hb H
      have hE := hE.reb 10 (x6_5 == x8_6) false hb rfl
      refine t_off rfl hE rfl rfl rfl (fun a ea => ?_)
      have hE := Env.put_some hE rfl ea; clear ea
      refine t_off rfl hE rfl rfl rfl (fun a ea => ?_)
      have hE := Env.put_some hE rfl ea; clear ea
      refine t_off rfl hE rfl rfl rfl (fun a ea => ?_)
      have hE := Env.put_some hE rfl ea; clear ea
      refine t_off rfl hE rfl rfl rfl (fun a ea => ?_)
      have hE := Env.put_some hE rfl ea; clear ea
      refine t_off rfl hE rfl rfl rfl (fun a ea => ?_)
      have hE := Env.put_some hE rfl ea; clear ea
      refine t_val rfl rfl hE rfl (r_pick_f hE rfl rfl) (fun a hE => ?_)
      refine t_nil ?_
      exact hKr _ _ _ (hE.cut (.cons rfl (.cons rfl (.cons rfl (.cons rfl Subs.nil))))) hR H
  · intro x16_7 a w hE hR H
    refine t_val (v := .bool x16_7) rfl rfl hE rfl (r_move hE rfl) (fun a hE => ?_)
    refine t_grp (n := (⟨26, []⟩ : Frm)) (w0 := w0) 8 (fun x25_10 : Bool => [(4, .bool false), (25, .bool x25_10)]) (M.unbind H) (fun Kr hKr H => ?_) ?_
    · rcases bool_em x16_7 with hb | hb
      · replace H := M.ite_t hb H
        have hE := hE.reb 17 x16_7 true hb rfl
        refine t_on rfl hE rfl rfl rfl ?_
        refine t_val (v := .pointer (some ((x2_2).add 2))) rfl rfl hE rfl (r_fieldAddr hE rfl fd24_2) (fun a hE => ?_)
        refine t_on rfl hE rfl rfl rfl ?_
        obtain ⟨x19_11, qx19_11, H⟩ := H
        refine t_val (v := (x19_11 : Sl).v) rfl rfl hE rfl (r_load hE rfl sc22 qx19_11) (fun a hE => ?_)
        refine t_on rfl hE rfl rfl rfl ?_
        obtain ⟨x20_12, qx20_12, H⟩ := H
        refine t_val (v := .string x20_12) rfl rfl hE rfl (b2s_run hE rfl un22 un9 un5 qx20_12) (fun a hE => ?_)
        refine t_on rfl hE rfl rfl rfl ?_
        refine t_val (v := .pointer (some ((x3_3).add 2))) rfl rfl hE rfl (r_fieldAddr hE rfl fd24_2) (fun a hE => ?_)
        refine t_on rfl hE rfl rfl rfl ?_
        obtain ⟨x22_13, qx22_13, H⟩ := H
        refine t_val (v := (x22_13 : Sl).v) rfl rfl hE rfl (r_load hE rfl sc22 qx22_13) (fun a hE => ?_)
        refine t_on rfl hE rfl rfl rfl ?_
        obtain ⟨x23_14, qx23_14, H⟩ := H
        refine t_val (v := .string x23_14) rfl rfl hE rfl (b2s_run hE rfl un22 un9 un5 qx23_14) (fun a hE => ?_)
        refine t_on rfl hE rfl rfl rfl ?_
        refine t_val (v := .bool (sEq x20_12 x23_14)) rfl rfl hE rfl (r_bin hE rfl rfl g_str b_eqlS) (fun a hE => ?_)
        refine t_val rfl rfl hE rfl (r_pick_t hE rfl rfl) (fun a hE => ?_)
        refine t_nil ?_
        exact hKr _ _ _ (hE.cut (.cons rfl (.cons rfl Subs.nil))) hR H
      · replace H := M.ite_f hb H
        have hE := hE.reb 17 x16_7 false hb rfl
        refine t_off rfl hE rfl rfl rfl (fun a ea => ?_)
        have hE := Env.put_some hE rfl ea; clear ea
        refine t_off rfl hE rfl rfl rfl (fun a ea => ?_)
        have hE := Env.put_some hE rfl ea; clear ea
        refine t_off rfl hE rfl rfl rfl (fun a ea => ?_)
        have hE := Env.put_some hE rfl ea; clear ea
        refine t_off rfl hE rfl rfl rfl (fun a ea => ?_)
        have hE := Env.put_some hE rfl ea; clear ea
        refine t_off rfl hE rfl rfl rfl (fun a ea => ?_)
        have hE := Env.put_some hE rfl ea; clear ea
        refine t_off rfl hE rfl rfl rfl (fun a ea => ?_)
        have hE := Env.put_some hE rfl ea; clear ea
        refine t_off rfl hE rfl rfl rfl (fun a ea => ?_)
        have hE := Env.put_some hE rfl ea; clear ea
        refine t_val rfl rfl hE rfl (r_pick_f hE rfl rfl) (fun a hE => ?_)
        refine t_nil ?_
        exact hKr _ _ _ (hE.cut (.cons rfl (.cons rfl Subs.nil))) hR H
    · intro x25_10 a w hE hR H
      refine t_val (v := .bool x25_10) rfl rfl hE rfl (r_assign hE rfl) (fun a hE => ?_)
      refine t_nil ?_
      refine hK_4 _ _ ?_
      refine w_ret ?_
      exact hret _ _ _ x25_10 _ hE hR (res_run hE rfl (RV.tmp rfl RV.nil)) rfl H

/-- ramble/ramblelaw05.begun -/
def ramblelaw05_begun  : M (Bool) := do
  let x6_3 ← bdL ty_uint8 2 #[.int .u8 7, .int .u8 8]
  let x8_4 ← sector_Seal (#[.int .i64 1, .int .i64 5, (x6_3 : Sl).v] : Array Value)
  let x1_5 ← mkB ty_api_Sector (Array.replicate 128 (.int .u8 0) : Array Value)
  M.need (x8_4.1.size = 128)
  stG x1_5 x8_4.1
  let x12_8 ← ldG 128 x1_5
  let x13_9 ← sector_Open x12_8
  let x3_10 ← mkB ty_api_Frame (#[.int .i64 0, .int .i64 0, .slice none 0 0] : Array Value)
  M.need (x13_9.1.size = 3)
  stG x3_10 x13_9.1
  let x16_13 ← bdL ty_uint8 9 #[.int .u8 49, .int .u8 50, .int .u8 51, .int .u8 52, .int .u8 53, .int .u8 54, .int .u8 55, .int .u8 56, .int .u8 57]
  let x17_14 ← mrk x16_13
  let x18_15 ← sector_Sum x17_14
  let x23_16 ← M.ite (x18_15 == 3421780262) (do
    M.pure (x8_4.2 == 0)
    ) (do
    M.pure false
    )
  let x27_17 ← M.ite x23_16 (do
    M.pure (x13_9.2 == 0)
    ) (do
    M.pure false
    )
  let x33_18 ← M.ite x27_17 (do
    let x29_19 ← ldG 3 x3_10
    let x30_20 ← bdL ty_uint8 2 #[.int .u8 7, .int .u8 8]
    let x32_21 ← rambleref05_Same x29_19 (#[.int .i64 1, .int .i64 5, (x30_20 : Sl).v] : Array Value)
    M.pure x32_21
    ) (do
    M.pure false
    )
  M.pure x33_18
theorem S_ramblelaw05_begun  : Sound Go.Proofs.Try.prog 12 #[] (fun (r : Bool) => .bool r) (ramblelaw05_begun ) := by
  refine sound_of [] Go.Proofs.Try.func12 rfl rfl (Nat.le_of_ble_eq_true rfl) (args_of trivial) (fun w0 w Q R a hret hE hR H => ?_)
  unfold ramblelaw05_begun at H
  refine w_seq (fun K hK_1 => ?_)
  refine t_region ?_
  refine t_val (v := .bool false) rfl rfl hE rfl (r_assign hE rfl) (fun a hE => ?_)
  refine t_nil ?_
  refine hK_1 _ _ ?_
  refine w_seq (fun K hK_2 => ?_)
  refine t_region ?_
  obtain ⟨x6_3, qx6_3, H⟩ := H
  refine t_valh (v := (x6_3 : Sl).v) rfl rfl hE rfl hR (r_buildL (cells := #[.int .u8 7, .int .u8 8]) hE rfl un22 sz5 zr5 rfl rfl qx6_3) (fun a w hE hR hh => ?_)
  replace H := M.at hh H; clear hh
  refine t_val (v := .agg (#[.int .i64 1, .int .i64 5, (x6_3 : Sl).v] : Array Value)) rfl rfl hE rfl (r_build hE rfl zr24 pl24 (by rfl)) (fun a hE => ?_)
  refine t_call hE hR cl_sector_Seal rfl (S_sector_Seal (#[.int .i64 1, .int .i64 5, (x6_3 : Sl).v] : Array Value)) (M.unbind H) (fun x8_4 a w ea hR H => ?_)
  have hE := Env.put_some hE rfl ea; clear ea
  refine t_val (v := .tuple #[.agg x8_4.1, .int .i64 x8_4.2]) rfl rfl hE rfl (r_move hE rfl) (fun a hE => ?_)
  refine t_val (v := .agg x8_4.1) rfl rfl hE rfl (r_extract hE rfl rfl) (fun a hE => ?_)
  refine t_val (v := .int .i64 x8_4.2) rfl rfl hE rfl (r_extract hE rfl rfl) (fun a hE => ?_)
  obtain ⟨x1_5, qx1_5, H⟩ := H
  refine t_valh (v := .pointer (some x1_5)) rfl rfl hE rfl hR (r_alloc zr26 qx1_5) (fun a w hE hR hh => ?_)
  replace H := M.at hh H; clear hh
  obtain ⟨qz, H⟩ := H
  obtain ⟨u_6, qu_6, H⟩ := H
  refine t_sth rfl rfl hE hR (r_storeG hE rfl rfl sz26 qz qu_6) (fun a w hE hR hh => ?_)
  replace H := M.at hh H; clear hh
  refine t_val (v := .int .i64 x8_4.2) rfl rfl hE rfl (r_assign hE rfl) (fun a hE => ?_)
  refine t_nil ?_
  refine hK_2 _ _ ?_
  refine w_seq (fun K hK_7 => ?_)
  refine t_region ?_
  obtain ⟨x12_8, qx12_8, H⟩ := H
  refine t_val (v := .agg x12_8) rfl rfl hE rfl (r_loadG hE rfl ag26 qx12_8) (fun a hE => ?_)
  refine t_call hE hR cl_sector_Open rfl (S_sector_Open x12_8) (M.unbind H) (fun x13_9 a w ea hR H => ?_)
  have hE := Env.put_some hE rfl ea; clear ea
  refine t_val (v := .tuple #[.agg x13_9.1, .int .i64 x13_9.2]) rfl rfl hE rfl (r_move hE rfl) (fun a hE => ?_)
  refine t_val (v := .agg x13_9.1) rfl rfl hE rfl (r_extract hE rfl rfl) (fun a hE => ?_)
  refine t_val (v := .int .i64 x13_9.2) rfl rfl hE rfl (r_extract hE rfl rfl) (fun a hE => ?_)
  obtain ⟨x3_10, qx3_10, H⟩ := H
  refine t_valh (v := .pointer (some x3_10)) rfl rfl hE rfl hR (r_alloc zr24 qx3_10) (fun a w hE hR hh => ?_)
  replace H := M.at hh H; clear hh
  obtain ⟨qz, H⟩ := H
  obtain ⟨u_11, qu_11, H⟩ := H
  refine t_sth rfl rfl hE hR (r_storeG hE rfl rfl sz24 qz qu_11) (fun a w hE hR hh => ?_)
  replace H := M.at hh H; clear hh
  refine t_val (v := .int .i64 x13_9.2) rfl rfl hE rfl (r_assign hE rfl) (fun a hE => ?_)
  refine t_nil ?_
  refine hK_7 _ _ ?_
  refine w_seq (fun K hK_12 => ?_)
  refine t_region ?_
  obtain ⟨x16_13, qx16_13, H⟩ := H
  refine t_valh (v := (x16_13 : Sl).v) rfl rfl hE rfl hR (r_buildL (cells := #[.int .u8 49, .int .u8 50, .int .u8 51, .int .u8 52, .int .u8 53, .int .u8 54, .int .u8 55, .int .u8 56, .int .u8 57]) hE rfl un22 sz5 zr5 rfl rfl qx16_13) (fun a w hE hR hh => ?_)
  replace H := M.at hh H; clear hh
  obtain ⟨x17_14, qx17_14, H⟩ := H
  refine t_valh (v := (x17_14 : Sl).v) rfl rfl hE rfl hR (r_mrk hE rfl un22 un5 qx17_14) (fun a w hE hR hh => ?_)
  replace H := M.at hh H; clear hh
  refine t_call hE hR cl_sector_Sum rfl (S_sector_Sum x17_14) (M.unbind H) (fun x18_15 a w ea hR H => ?_)
  have hE := Env.put_some hE rfl ea; clear ea
  refine t_val (v := .bool (x18_15 == 3421780262)) rfl rfl hE rfl (r_bin hE rfl rfl g_int b_eql) (fun a hE => ?_)
  refine t_val (v := .bool (x18_15 == 3421780262)) rfl rfl hE rfl (r_move hE rfl) (fun a hE => ?_)
  refine t_grp (n := (⟨34, []⟩ : Frm)) (w0 := w0) 3 (fun x23_16 : Bool => [(0, .bool false), (3, .pointer (some x3_10)), (4, .int .i64 x13_9.2), (23, .bool x23_16)]) (M.unbind H) (fun Kr hKr H => ?_) ?_
  · rcases bool_em (x18_15 == 3421780262) with hb | hb
    · replace H := M.ite_t hb H
      have hE := hE.reb 20 (x18_15 == 3421780262) true hb rfl
      refine t_on rfl hE rfl rfl rfl ?_
      refine t_val (v := .int .i64 x8_4.2) rfl rfl hE rfl (r_move hE rfl) (fun a hE => ?_)
      refine t_on rfl hE rfl rfl rfl ?_
      refine t_val (v := .bool (x8_4.2 == 0)) rfl rfl hE rfl (r_bin hE rfl rfl g_int b_eql) (fun a hE => ?_)
      refine t_val rfl rfl hE rfl (r_pick_t hE rfl rfl) (fun a hE => ?_)
      refine t_nil ?_
      exact hKr _ _ _ (hE.cut (.cons rfl (.cons rfl (.cons rfl (.cons rfl Subs.nil))))) hR H
    · replace H := M.ite_f hb H
      have hE := hE.reb 20 (x18_15 == 3421780262) false hb rfl
      refine t_off rfl hE rfl rfl rfl (fun a ea => ?_)
      have hE := Env.put_some hE rfl ea; clear ea
      refine t_off rfl hE rfl rfl rfl (fun a ea => ?_)
      have hE := Env.put_some hE rfl ea; clear ea
      refine t_val rfl rfl hE rfl (r_pick_f hE rfl rfl) (fun a hE => ?_)
      refine t_nil ?_
      exact hKr _ _ _ (hE.cut (.cons rfl (.cons rfl (.cons rfl (.cons rfl Subs.nil))))) hR H
  · intro x23_16 a w hE hR H
    refine t_val (v := .bool x23_16) rfl rfl hE rfl (r_move hE rfl) (fun a hE => ?_)
    refine t_grp (n := (⟨34, []⟩ : Frm)) (w0 := w0) 3 (fun x27_17 : Bool => [(0, .bool false), (3, .pointer (some x3_10)), (27, .bool x27_17)]) (M.unbind H) (fun Kr hKr H => ?_) ?_
    · rcases bool_em x23_16 with hb | hb
      · replace H := M.ite_t hb H
        have hE := hE.reb 24 x23_16 true hb rfl
        refine t_on rfl hE rfl rfl rfl ?_
        refine t_val (v := .int .i64 x13_9.2) rfl rfl hE rfl (r_move hE rfl) (fun a hE => ?_)
        refine t_on rfl hE rfl rfl rfl ?_
        refine t_val (v := .bool (x13_9.2 == 0)) rfl rfl hE rfl (r_bin hE rfl rfl g_int b_eql) (fun a hE => ?_)
        refine t_val rfl rfl hE rfl (r_pick_t hE rfl rfl) (fun a hE => ?_)
        refine t_nil ?_
        exact hKr _ _ _ (hE.cut (.cons rfl (.cons rfl (.cons rfl Subs.nil)))) hR H
      · replace H := M.ite_f hb H
        have hE := hE.reb 24 x23_16 false hb rfl
        refine t_off rfl hE rfl rfl rfl (fun a ea => ?_)
        have hE := Env.put_some hE rfl ea; clear ea
        refine t_off rfl hE rfl rfl rfl (fun a ea => ?_)
        have hE := Env.put_some hE rfl ea; clear ea
        refine t_val rfl rfl hE rfl (r_pick_f hE rfl rfl) (fun a hE => ?_)
        refine t_nil ?_
        exact hKr _ _ _ (hE.cut (.cons rfl (.cons rfl (.cons rfl Subs.nil)))) hR H
    · intro x27_17 a w hE hR H
      refine t_val (v := .bool x27_17) rfl rfl hE rfl (r_move hE rfl) (fun a hE => ?_)
      refine t_grp (n := (⟨34, []⟩ : Frm)) (w0 := w0) 5 (fun x33_18 : Bool => [(0, .bool false), (33, .bool x33_18)]) (M.unbind H) (fun Kr hKr H => ?_) ?_
      · rcases bool_em x27_17 with hb | hb
        · replace H := M.ite_t hb H
          have hE := hE.reb 28 x27_17 true hb rfl
          refine t_on rfl hE rfl rfl rfl ?_
          obtain ⟨x29_19, qx29_19, H⟩ := H
          refine t_val (v := .agg x29_19) rfl rfl hE rfl (r_loadG hE rfl ag24 qx29_19) (fun a hE => ?_)
          refine t_on rfl hE rfl rfl rfl ?_
          obtain ⟨x30_20, qx30_20, H⟩ := H
          refine t_valh (v := (x30_20 : Sl).v) rfl rfl hE rfl hR (r_buildL (cells := #[.int .u8 7, .int .u8 8]) hE rfl un22 sz5 zr5 rfl rfl qx30_20) (fun a w hE hR hh => ?_)
          replace H := M.at hh H; clear hh
          refine t_on rfl hE rfl rfl rfl ?_
          refine t_val (v := .agg (#[.int .i64 1, .int .i64 5, (x30_20 : Sl).v] : Array Value)) rfl rfl hE rfl (r_build hE rfl zr24 pl24 (by rfl)) (fun a hE => ?_)
          refine t_on rfl hE rfl rfl rfl ?_
          refine t_call hE hR cl_rambleref05_Same rfl (S_rambleref05_Same x29_19 (#[.int .i64 1, .int .i64 5, (x30_20 : Sl).v] : Array Value)) (M.unbind H) (fun x32_21 a w ea hR H => ?_)
          have hE := Env.put_some hE rfl ea; clear ea
          refine t_val rfl rfl hE rfl (r_pick_t hE rfl rfl) (fun a hE => ?_)
          refine t_nil ?_
          exact hKr _ _ _ (hE.cut (.cons rfl (.cons rfl Subs.nil))) hR H
        · replace H := M.ite_f hb H
          have hE := hE.reb 28 x27_17 false hb rfl
          refine t_off rfl hE rfl rfl rfl (fun a ea => ?_)
          have hE := Env.put_some hE rfl ea; clear ea
          refine t_off rfl hE rfl rfl rfl (fun a ea => ?_)
          have hE := Env.put_some hE rfl ea; clear ea
          refine t_off rfl hE rfl rfl rfl (fun a ea => ?_)
          have hE := Env.put_some hE rfl ea; clear ea
          refine t_off rfl hE rfl rfl rfl (fun a ea => ?_)
          have hE := Env.put_some hE rfl ea; clear ea
          refine t_val rfl rfl hE rfl (r_pick_f hE rfl rfl) (fun a hE => ?_)
          refine t_nil ?_
          exact hKr _ _ _ (hE.cut (.cons rfl (.cons rfl Subs.nil))) hR H
      · intro x33_18 a w hE hR H
        refine t_val (v := .bool x33_18) rfl rfl hE rfl (r_assign hE rfl) (fun a hE => ?_)
        refine t_nil ?_
        refine hK_12 _ _ ?_
        refine w_ret ?_
        exact hret _ _ _ x33_18 _ hE hR (res_run hE rfl (RV.tmp rfl RV.nil)) rfl H

/-- slices.AppendSeq[[][]byte,[]byte] -/
def slices_AppendSeq_byte_byte_y1 (c2_5 : Addr) (lp1 : Nat) : (Sl) → M Nat := fun x => match x with
  | x7_6 => do
    let _ ← beg lp1
    let x8_7 ← ldL c2_5
    let x10_8 ← bdL ty_sl_uint8 1 #[(x7_6 : Sl).v]
    let x11_9 ← apL ty_sl_uint8 1 24 (#[.slice none 0 0] : Array Value) x8_7 x10_8
    stV c2_5 ((x11_9 : Sl).v)
    M.pure 0
def slices_AppendSeq_byte_byte (x0 : Sl) (x1 : Value) : M (Sl) := do
  let x2_2 ← mkB ty_sl_sl_uint8 #[(x0 : Sl).v]
  let j_11 ← rgF Go.Proofs.Try.prog (fun x : Sl => [(x : Sl).v]) [] (slices_AppendSeq_byte_byte_y1 x2_2) x1
  let x12_13 ← ldL x2_2
  let _ ← shut (j_11.2 :: [])
  M.pure x12_13
theorem S_slices_AppendSeq_byte_byte (x0 : Sl) (x1 : Value) : Sound Go.Proofs.Try.prog 48 #[(x0 : Sl).v, x1] (fun (r : Sl) => (r : Sl).v) (slices_AppendSeq_byte_byte x0 x1) := by
  refine sound_ofM [(0, (x0 : Sl).v), (1, x1)] Go.Proofs.Try.func48 rfl rfl (Nat.le_of_ble_eq_true rfl) (args_of ⟨rfl, rfl, trivial⟩) (fun w0 w Q R a hret hE hR H => ?_)
  unfold slices_AppendSeq_byte_byte at H
  refine w_seq (fun K hK_1 => ?_)
  refine t_region ?_
  obtain ⟨x2_2, qx2_2, H⟩ := H
  refine t_valh (v := .pointer (some x2_2)) rfl rfl hE rfl hR (r_box hE rfl qx2_2) (fun a w hE hR hh => ?_)
  replace H := M.at hh H; clear hh
  refine t_val (v := (Sl.nil : Sl).v) rfl rfl hE rfl (r_assign hE rfl) (fun a hE => ?_)
  refine t_nil ?_
  refine hK_1 _ _ ?_
  refine w_seq (fun K hK_3 => ?_)
  refine w_seq (fun K hK_4 => ?_)
  refine t_region ?_
  refine t_val (v := x1) rfl rfl hE rfl (r_move hE rfl) (fun a hE => ?_)
  refine t_nil ?_
  refine hK_4 _ _ ?_
  refine w_block ?_
  refine w_rangeF (js := []) (enc := (fun x : Sl => [(x : Sl).v])) (Y := (slices_AppendSeq_byte_byte_y1 x2_2)) hE hR rfl (fun x => rfl) rfl (M.unbind H) (fun lp1 x7_6 Q w0 Rr hfin a w hE hR H => ?_) (fun j_11 a w hE hR H => ?_)
  · skip
    replace hE : Env (⟨13, []⟩ : Frm) a [(2, .pointer (some x2_2)), (7, (x7_6 : Sl).v)] := Env.cut hE (.cons rfl (.cons rfl Subs.nil))
    replace H : (slices_AppendSeq_byte_byte_y1 x2_2 lp1 x7_6).wp w.heap Q := H
    unfold slices_AppendSeq_byte_byte_y1 at H
    refine t_region ?_
    refine t_val (v := (x7_6 : Sl).v) rfl rfl hE rfl (r_assign hE rfl) (fun a hE => ?_)
    refine t_nil ?_
    refine beg_w hR H (fun w hR H => ?_)
    refine w_block ?_
    refine t_region ?_
    obtain ⟨x8_7, qx8_7, H⟩ := H
    refine t_val (v := (x8_7 : Sl).v) rfl rfl hE rfl (r_load hE rfl sc38 qx8_7) (fun a hE => ?_)
    refine t_val (v := (x7_6 : Sl).v) rfl rfl hE rfl (r_move hE rfl) (fun a hE => ?_)
    obtain ⟨x10_8, qx10_8, H⟩ := H
    refine t_valh (v := (x10_8 : Sl).v) rfl rfl hE rfl hR (r_buildL (cells := #[(x7_6 : Sl).v]) hE rfl un38 sz22 zr22 rfl rfl qx10_8) (fun a w hE hR hh => ?_)
    replace H := M.at hh H; clear hh
    refine t_ex (fun x11_9 => (x11_9 : Sl).v) rfl rfl hR (M.unbind H) (fun Q H => ap_run hE rfl rfl ap38 H) (fun x11_9 a w ea hR H => ?_)
    have hE := Env.put_some hE rfl ea; clear ea
    obtain ⟨u_10, qu_10, H⟩ := H
    refine t_sth rfl rfl hE hR (r_store hE rfl rfl sz38 qu_10) (fun a w hE hR hh => ?_)
    replace H := M.at hh H; clear hh
    refine t_nil ?_
    exact hfin 0 _ _ hR H
  · skip
    replace hE : Env (⟨13, (j_11.2 :: [])⟩ : Frm) a [(2, .pointer (some x2_2)), (4, (Sl.nil : Sl).v)] := Env.cut hE (.cons rfl (.cons rfl Subs.nil))
    refine jgo_nil ?_
    refine hK_3 _ _ ?_
    refine w_seq (fun K hK_12 => ?_)
    refine t_region ?_
    obtain ⟨x12_13, qx12_13, H⟩ := H
    refine t_val (v := (x12_13 : Sl).v) rfl rfl hE rfl (r_load hE rfl sc38 qx12_13) (fun a hE => ?_)
    refine t_val (v := (x12_13 : Sl).v) rfl rfl hE rfl (r_assign hE rfl) (fun a hE => ?_)
    refine t_nil ?_
    refine hK_12 _ _ ?_
    refine w_ret ?_
    refine hret _ _ _ _ _ hE hR (M.unbind H) (fun w hR H => ?_)
    exact ⟨x12_13, _, res_run hE rfl (RV.tmp rfl RV.nil), rfl, H⟩

/-- slices.Collect[[]byte] -/
def slices_Collect_byte (x0 : Value) : M (Sl) := do
  let x4_3 ← slices_AppendSeq_byte_byte Sl.nil x0
  M.pure x4_3
theorem S_slices_Collect_byte (x0 : Value) : Sound Go.Proofs.Try.prog 36 #[x0] (fun (r : Sl) => (r : Sl).v) (slices_Collect_byte x0) := by
  refine sound_of [(0, x0)] Go.Proofs.Try.func36 rfl rfl (Nat.le_of_ble_eq_true rfl) (args_of ⟨rfl, trivial⟩) (fun w0 w Q R a hret hE hR H => ?_)
  unfold slices_Collect_byte at H
  refine w_seq (fun K hK_1 => ?_)
  refine t_region ?_
  refine t_val (v := (Sl.nil : Sl).v) rfl rfl hE rfl (r_assign hE rfl) (fun a hE => ?_)
  refine t_nil ?_
  refine hK_1 _ _ ?_
  refine w_seq (fun K hK_2 => ?_)
  refine t_region ?_
  refine t_val (v := x0) rfl rfl hE rfl (r_move hE rfl) (fun a hE => ?_)
  refine t_call hE hR cl_slices_AppendSeq_byte_byte rfl (S_slices_AppendSeq_byte_byte Sl.nil x0) (M.unbind H) (fun x4_3 a w ea hR H => ?_)
  have hE := Env.put_some hE rfl ea; clear ea
  refine t_val (v := (x4_3 : Sl).v) rfl rfl hE rfl (r_assign hE rfl) (fun a hE => ?_)
  refine t_nil ?_
  refine hK_2 _ _ ?_
  refine w_ret ?_
  exact hret _ _ _ x4_3 _ hE hR (res_run hE rfl (RV.tmp rfl RV.nil)) rfl H

/-- slices.Chunk[[]byte,byte]$1 -/
theorem tb49_3 : tabAt Go.Proofs.Try.f49 3 [[], [], [], [1, 2], [3], [0, 4], [5, 0, 1, 2, 3, 4, 5]] [[], [], [], [1, 2], [3], [0, 4], [5]] [[], [], [], [1, 2], [1, 2, 3], [0, 1, 2, 3, 4], [0, 1, 2, 3, 4, 5]] = true := by kernel_rfl
def slices_Chunk_byte_byte_1_l1 (c0_3 : Value) (c1_4 : Addr) (c2_5 : Addr) (self1 : (Int) → M (Unit)) : (Int) → M (Unit) := fun s => match s with
  | x4_2 => do
    let x7_9 ← ldL c1_4
    M.ite (decide (x4_2 < (x7_9.len : Int))) (do
      let x13_12 ← ldI .i64 c2_5
      let x14_13 ← ldL c1_4
      let x16_14 ← slL x14_13 x4_2 x14_13.len 1
      let x20_16 ← ldL c1_4
      let x28_17 ← slL3 x20_16 x4_2 (IntKind.wrap .i64 (x4_2 + (iMin x13_12 (x16_14.len : Int)))) (IntKind.wrap .i64 (x4_2 + (iMin x13_12 (x16_14.len : Int)))) 1
      let x29_18 ← callV Go.Proofs.Try.prog (fun r : Bool => .bool r) c0_3 [(x28_17 : Sl).v]
      M.ite (!x29_18) (do
        M.pure ()
        ) (do
        let x11_19 ← ldI .i64 c2_5
        self1 (IntKind.wrap .i64 (x4_2 + x11_19))
        )
      ) (do
      M.pure ()
      )
def slices_Chunk_byte_byte_1 (x0 : Value) (x1 : Addr) (x2 : Addr) : M (Unit) := do
  M.loop (slices_Chunk_byte_byte_1_l1 x0 x1 x2) 0
theorem S_slices_Chunk_byte_byte_1 (x0 : Value) (x1 : Addr) (x2 : Addr) : Sound Go.Proofs.Try.prog 49 #[x0, .pointer (some x1), .pointer (some x2)] (fun (r : Unit) => .tuple #[]) (slices_Chunk_byte_byte_1 x0 x1 x2) := by
  refine sound_of [(0, x0), (1, .pointer (some x1)), (2, .pointer (some x2))] Go.Proofs.Try.func49 rfl rfl (Nat.le_of_ble_eq_true rfl) (args_of ⟨rfl, rfl, rfl, trivial⟩) (fun w0 w Q R a hret hE hR H => ?_)
  unfold slices_Chunk_byte_byte_1 at H
  refine w_seq (fun K hK_1 => ?_)
  refine t_region ?_
  refine t_val (v := .int .i64 0) rfl rfl hE rfl (r_assign hE rfl) (fun a hE => ?_)
  refine t_nil ?_
  refine hK_1 _ _ ?_
  refine w_block ?_
  refine l_loop (fun (s : Int) => (⟨31, []⟩ : Frm)) (fun (s : Int) => [(0, x0), (1, .pointer (some x1)), (2, .pointer (some x2)), (4, .int .i64 s)]) H (hE.cut (.cons rfl (.cons rfl (.cons rfl (.cons rfl Subs.nil))))) hR (fun Y self1 hY_6 x4_2 a w hE hR H => ?_)
  replace hE : Env (⟨31, []⟩ : Frm) a [(0, x0), (1, .pointer (some x1)), (2, .pointer (some x2)), (4, .int .i64 x4_2)] := hE
  replace H : (slices_Chunk_byte_byte_1_l1 x0 x1 x2 self1 x4_2).wp w.heap Q := H
  unfold slices_Chunk_byte_byte_1_l1 at H
  refine w_seq (fun K hK_7 => ?_)
  refine w_seq (fun K hK_8 => ?_)
  refine t_region ?_
  refine t_val (v := .int .i64 x4_2) rfl rfl hE rfl (r_move hE rfl) (fun a hE => ?_)
  obtain ⟨x7_9, qx7_9, H⟩ := H
  refine t_val (v := (x7_9 : Sl).v) rfl rfl hE rfl (r_load hE rfl sc22 qx7_9) (fun a hE => ?_)
  refine t_val (v := .int .i64 (x7_9.len : Int)) rfl rfl hE rfl (r_len hE rfl 5 un22) (fun a hE => ?_)
  refine t_val (v := .bool (decide (x4_2 < (x7_9.len : Int)))) rfl rfl hE rfl (r_bin hE rfl rfl g_int b_lss) (fun a hE => ?_)
  refine t_nil ?_
  refine hK_8 _ _ ?_
  refine w_cond (decide (x4_2 < (x7_9.len : Int))) hE rfl (fun hb => ?_) (fun hb => ?_)
  · replace H := M.ite_t hb H
    refine w_skip ?_
    refine hK_7 _ _ ?_
    refine w_seq (fun K hK_10 => ?_)
    refine w_block ?_
    refine w_seq (fun K hK_11 => ?_)
    obtain ⟨x13_12, qx13_12, H⟩ := H
    obtain ⟨x14_13, qx14_13, H⟩ := H
    obtain ⟨x16_14, qx16_14, H⟩ := H
    have hT := tab_of tb49_3 rfl rfl
    refine d_start (fun w : World => (fun h : Heap => (hcell h x2 = some (.int .i64 x13_12)) ∧ (hcell h x1 = some ((x14_13 : Sl).v))) w.heap) [5, 6] #[false, false, false, false, false, false, false] mo hR rfl rfl (fun w' e => by rw [e]; exact ⟨qx13_12, qx14_13⟩) (fun w hh hR hs => ?_)
    replace H := M.at hh H; clear hh
    refine d_pureg (i := 2) (v := .int .i64 x4_2) #[false, false, true, false, false, false, false] rfl rfl hT (by kernel_rfl) hE rfl (wanted_none rfl) (fun w => r_move hE rfl) (fun a hE => ?_)
    refine d_read (i := 0) (v := .int .i64 x13_12) #[true, false, true, false, false, false, false] rfl rfl hT (by kernel_rfl) hE rfl (wanted_none rfl) hs (fun w s => r_load hE rfl sc3 s.1) (fun a hE => ?_)
    refine d_read (i := 1) (v := (x14_13 : Sl).v) #[true, true, true, false, false, false, false] rfl rfl hT (by kernel_rfl) hE rfl (wanted_none rfl) hs (fun w s => r_load hE rfl sc22 s.2) (fun a hE => ?_)
    refine d_pureg (i := 3) (v := (x16_14 : Sl).v) #[true, true, true, true, false, false, false] rfl rfl hT (by kernel_rfl) hE rfl (wanted_none rfl) (fun w => r_sliceL_l hE rfl rfl un22 sz5 qx16_14) (fun a hE => ?_)
    refine d_pureg (i := 4) (v := .int .i64 (x16_14.len : Int)) #[true, true, true, true, true, false, false] rfl rfl hT (by kernel_rfl) hE rfl (wanted_none rfl) (fun w => r_len hE rfl 5 un22) (fun a hE => ?_)
    refine d_pureg (i := 5) (v := .int .i64 (iMin x13_12 (x16_14.len : Int))) #[true, true, true, true, true, true, false] rfl rfl hT (by kernel_rfl) hE rfl (wanted_none rfl) (fun w => r_min hE rfl rfl) (fun a hE => ?_)
    refine d_pureg (i := 6) (v := .int .i64 (iMin x13_12 (x16_14.len : Int))) #[true, true, true, true, true, true, true] rfl rfl hT (by kernel_rfl) hE rfl (wanted_none rfl) (fun w => r_assign hE rfl) (fun a hE => ?_)
    refine d_done hT (by kernel_rfl) ?_
    refine hK_11 _ _ ?_
    refine w_seq (fun K hK_15 => ?_)
    refine t_region ?_
    refine t_val (v := x0) rfl rfl hE rfl (r_move hE rfl) (fun a hE => ?_)
    obtain ⟨x20_16, qx20_16, H⟩ := H
    refine t_val (v := (x20_16 : Sl).v) rfl rfl hE rfl (r_load hE rfl sc22 qx20_16) (fun a hE => ?_)
    refine t_val (v := .int .i64 x4_2) rfl rfl hE rfl (r_move hE rfl) (fun a hE => ?_)
    refine t_val (v := .int .i64 x4_2) rfl rfl hE rfl (r_move hE rfl) (fun a hE => ?_)
    refine t_val (v := .int .i64 (iMin x13_12 (x16_14.len : Int))) rfl rfl hE rfl (r_move hE rfl) (fun a hE => ?_)
    refine t_val (v := .int .i64 (IntKind.wrap .i64 (x4_2 + (iMin x13_12 (x16_14.len : Int))))) rfl rfl hE rfl (r_bin hE rfl rfl g_int b_add) (fun a hE => ?_)
    refine t_val (v := .int .i64 x4_2) rfl rfl hE rfl (r_move hE rfl) (fun a hE => ?_)
    refine t_val (v := .int .i64 (iMin x13_12 (x16_14.len : Int))) rfl rfl hE rfl (r_move hE rfl) (fun a hE => ?_)
    refine t_val (v := .int .i64 (IntKind.wrap .i64 (x4_2 + (iMin x13_12 (x16_14.len : Int))))) rfl rfl hE rfl (r_bin hE rfl rfl g_int b_add) (fun a hE => ?_)
    obtain ⟨x28_17, qx28_17, H⟩ := H
    refine t_val (v := (x28_17 : Sl).v) rfl rfl hE rfl (r_sliceL3 hE rfl rfl rfl rfl un22 sz5 qx28_17) (fun a hE => ?_)
    refine t_callV hE hR rfl rfl (M.unbind H) (fun x29_18 a w ea hR H => ?_)
    have hE := Env.put_some hE rfl ea; clear ea
    refine t_val (v := .bool (!x29_18)) rfl rfl hE rfl (r_un hE rfl u_not) (fun a hE => ?_)
    refine t_nil ?_
    refine hK_15 _ _ ?_
    refine w_cond (!x29_18) hE rfl (fun hb => ?_) (fun hb => ?_)
    · replace H := M.ite_t hb H
      refine w_ret ?_
      exact hret _ _ _ () _ hE hR (res_run hE rfl RV.nil) rfl H
    · replace H := M.ite_f hb H
      refine w_skip ?_
      refine hK_10 _ _ ?_
      refine t_region ?_
      refine t_val (v := .int .i64 x4_2) rfl rfl hE rfl (r_move hE rfl) (fun a hE => ?_)
      obtain ⟨x11_19, qx11_19, H⟩ := H
      refine t_val (v := .int .i64 x11_19) rfl rfl hE rfl (r_load hE rfl sc3 qx11_19) (fun a hE => ?_)
      refine t_val (v := .int .i64 (IntKind.wrap .i64 (x4_2 + x11_19))) rfl rfl hE rfl (r_bin hE rfl rfl g_int b_add) (fun a hE => ?_)
      refine t_val (v := .int .i64 (IntKind.wrap .i64 (x4_2 + x11_19))) rfl rfl hE rfl (r_assign hE rfl) (fun a hE => ?_)
      refine t_nil ?_
      exact hY_6 (IntKind.wrap .i64 (x4_2 + x11_19)) _ _ (hE.cut (.cons rfl (.cons rfl (.cons rfl (.cons rfl Subs.nil))))) hR H
  · replace H := M.ite_f hb H
    refine w_exit ?_
    refine Xu.same ?_
    exact hret _ _ _ () _ hE hR (res_run hE rfl RV.nil) rfl H

/-- slices.Chunk[[]byte,byte] -/
def slices_Chunk_byte_byte_j1 (c2_4 : Addr) (c3_5 : Addr) : M (Value) := do
  M.pure (Value.func (.func fn_slices_Chunk_byte_byte_1) #[] #[.pointer (some c2_4), .pointer (some c3_5)])
def slices_Chunk_byte_byte (x0 : Sl) (x1 : Int) : M (Value) := do
  let x2_2 ← mkB ty_sl_uint8 #[(x0 : Sl).v]
  let x3_3 ← mkB ty_int #[.int .i64 x1]
  let x5_8 ← ldI .i64 x3_3
  M.ite (decide (x5_8 < 1)) (do
    M.fail
    ) (do
    slices_Chunk_byte_byte_j1 x2_2 x3_3
    )
theorem S_slices_Chunk_byte_byte (x0 : Sl) (x1 : Int) : Sound Go.Proofs.Try.prog 37 #[(x0 : Sl).v, .int .i64 x1] (fun (r : Value) => r) (slices_Chunk_byte_byte x0 x1) := by
  refine sound_of [(0, (x0 : Sl).v), (1, .int .i64 x1)] Go.Proofs.Try.func37 rfl rfl (Nat.le_of_ble_eq_true rfl) (args_of ⟨rfl, rfl, trivial⟩) (fun w0 w Q R a hret hE hR H => ?_)
  unfold slices_Chunk_byte_byte at H
  refine w_seq (fun K hK_1 => ?_)
  refine t_region ?_
  obtain ⟨x2_2, qx2_2, H⟩ := H
  refine t_valh (v := .pointer (some x2_2)) rfl rfl hE rfl hR (r_box hE rfl qx2_2) (fun a w hE hR hh => ?_)
  replace H := M.at hh H; clear hh
  obtain ⟨x3_3, qx3_3, H⟩ := H
  refine t_valh (v := .pointer (some x3_3)) rfl rfl hE rfl hR (r_box hE rfl qx3_3) (fun a w hE hR hh => ?_)
  replace H := M.at hh H; clear hh
  refine t_val (v := Value.nilFunc) rfl rfl hE rfl (r_assign hE rfl) (fun a hE => ?_)
  refine t_nil ?_
  refine hK_1 _ _ ?_
  refine w_seq_join (fun a w => Env (⟨9, []⟩ : Frm) a [(2, .pointer (some x2_2)), (3, .pointer (some x3_3))] ∧ Rest w0 w ∧ (slices_Chunk_byte_byte_j1 x2_2 x3_3).wp w.heap Q) ?_ ?_
  · rintro a w ⟨hE, hR, H⟩
    unfold slices_Chunk_byte_byte_j1 at H
    refine w_seq (fun K hK_6 => ?_)
    refine t_region ?_
    refine t_val (v := (Value.func (.func fn_slices_Chunk_byte_byte_1) #[] #[.pointer (some x2_2), .pointer (some x3_3)])) rfl rfl hE rfl (r_makeFunc hE rfl) (fun a hE => ?_)
    refine t_val (v := (Value.func (.func fn_slices_Chunk_byte_byte_1) #[] #[.pointer (some x2_2), .pointer (some x3_3)])) rfl rfl hE rfl (r_assign hE rfl) (fun a hE => ?_)
    refine t_nil ?_
    refine hK_6 _ _ ?_
    refine w_ret ?_
    exact hret _ _ _ (Value.func (.func fn_slices_Chunk_byte_byte_1) #[] #[.pointer (some x2_2), .pointer (some x3_3)]) _ hE hR (res_run hE rfl (RV.tmp rfl RV.nil)) rfl H
  · skip
    refine w_seq (fun K hK_7 => ?_)
    refine t_region ?_
    obtain ⟨x5_8, qx5_8, H⟩ := H
    refine t_val (v := .int .i64 x5_8) rfl rfl hE rfl (r_load hE rfl sc3 qx5_8) (fun a hE => ?_)
    refine t_val (v := .bool (decide (x5_8 < 1))) rfl rfl hE rfl (r_bin hE rfl rfl g_int b_lss) (fun a hE => ?_)
    refine t_nil ?_
    refine hK_7 _ _ ?_
    refine w_cond (decide (x5_8 < 1)) hE rfl (fun hb => ?_) (fun hb => ?_)
    · replace H := M.ite_t hb H
      exact False.elim H
    · replace H := M.ite_f hb H
      refine w_skip ?_
      exact ⟨hE.cut (.cons rfl (.cons rfl Subs.nil)), hR, H⟩

/-- ramble/sector.Cut -/
def sector_Cut (x0 : Sl) : M (Sl) := do
  let x4_3 ← slices_Clone_byte_byte x0
  let x5_4 ← slices_Chunk_byte_byte x4_3 112
  let x6_5 ← slices_Collect_byte x5_4
  M.pure x6_5
theorem S_sector_Cut (x0 : Sl) : Sound Go.Proofs.Try.prog 16 #[(x0 : Sl).v] (fun (r : Sl) => (r : Sl).v) (sector_Cut x0) := by
  refine sound_of [(0, (x0 : Sl).v)] Go.Proofs.Try.func16 rfl rfl (Nat.le_of_ble_eq_true rfl) (args_of ⟨rfl, trivial⟩) (fun w0 w Q R a hret hE hR H => ?_)
  unfold sector_Cut at H
  refine w_seq (fun K hK_1 => ?_)
  refine t_region ?_
  refine t_val (v := (Sl.nil : Sl).v) rfl rfl hE rfl (r_assign hE rfl) (fun a hE => ?_)
  refine t_nil ?_
  refine hK_1 _ _ ?_
  refine w_seq (fun K hK_2 => ?_)
  refine t_region ?_
  refine t_val (v := (x0 : Sl).v) rfl rfl hE rfl (r_move hE rfl) (fun a hE => ?_)
  refine t_call hE hR cl_slices_Clone_byte_byte rfl (S_slices_Clone_byte_byte x0) (M.unbind H) (fun x4_3 a w ea hR H => ?_)
  have hE := Env.put_some hE rfl ea; clear ea
  refine t_call hE hR cl_slices_Chunk_byte_byte rfl (S_slices_Chunk_byte_byte x4_3 112) (M.unbind H) (fun x5_4 a w ea hR H => ?_)
  have hE := Env.put_some hE rfl ea; clear ea
  refine t_call hE hR cl_slices_Collect_byte rfl (S_slices_Collect_byte x5_4) (M.unbind H) (fun x6_5 a w ea hR H => ?_)
  have hE := Env.put_some hE rfl ea; clear ea
  refine t_val (v := (x6_5 : Sl).v) rfl rfl hE rfl (r_assign hE rfl) (fun a hE => ?_)
  refine t_nil ?_
  refine hK_2 _ _ ?_
  refine w_ret ?_
  exact hret _ _ _ x6_5 _ hE hR (res_run hE rfl (RV.tmp rfl RV.nil)) rfl H

end Gx
namespace Gx
open Go
set_option linter.unusedVariables false
set_option maxRecDepth 100000
/-- ramble/rambleref05.Cut -/
def rambleref05_Cut_l1 (self1 : (Sl × Sl) → M (Sl)) : (Sl × Sl) → M (Sl) := fun s => match s with
  | (x0_4, x3_5) => do
    M.ite (decide ((x0_4.len : Int) > 0)) (do
      let x14_11 ← slL x0_4 0 (iMin (x0_4.len : Int) 112) 1
      let x15_12 ← apL ty_uint8 1 1 (#[.int .u8 0] : Array Value) Sl.nil x14_11
      let x16_13 ← bdL ty_sl_uint8 1 #[(x15_12 : Sl).v]
      let x17_14 ← apL ty_sl_uint8 1 24 (#[.slice none 0 0] : Array Value) x3_5 x16_13
      let x20_15 ← slL x0_4 (iMin (x0_4.len : Int) 112) x0_4.len 1
      self1 (x20_15, x17_14)
      ) (do
      M.pure x3_5
      )
def rambleref05_Cut (x0 : Sl) : M (Sl) := do
  M.loop rambleref05_Cut_l1 (x0, Sl.nil)
theorem S_rambleref05_Cut (x0 : Sl) : Sound Go.Proofs.Try.prog 17 #[(x0 : Sl).v] (fun (r : Sl) => (r : Sl).v) (rambleref05_Cut x0) := by
  refine sound_of [(0, (x0 : Sl).v)] Go.Proofs.Try.func17 rfl rfl (Nat.le_of_ble_eq_true rfl) (args_of ⟨rfl, trivial⟩) (fun w0 w Q R a hret hE hR H => ?_)
  unfold rambleref05_Cut at H
  refine w_seq (fun K hK_1 => ?_)
  refine t_region ?_
  refine t_val (v := (Sl.nil : Sl).v) rfl rfl hE rfl (r_assign hE rfl) (fun a hE => ?_)
  refine t_nil ?_
  refine hK_1 _ _ ?_
  refine w_seq (fun K hK_2 => ?_)
  refine t_region ?_
  refine t_val (v := (Sl.nil : Sl).v) rfl rfl hE rfl (r_assign hE rfl) (fun a hE => ?_)
  refine t_nil ?_
  refine hK_2 _ _ ?_
  refine w_seq (fun K hK_3 => ?_)
  refine w_block ?_
  refine l_loop (fun (s : Sl × Sl) => (⟨22, []⟩ : Frm)) (fun (s : Sl × Sl) => [(0, (s.1 : Sl).v), (3, (s.2 : Sl).v)]) H (hE.cut (.cons rfl (.cons rfl Subs.nil))) hR (fun Y self1 hY_6 s a w hE hR H => ?_)
  rcases s with ⟨x0_4, x3_5⟩
  replace hE : Env (⟨22, []⟩ : Frm) a [(0, (x0_4 : Sl).v), (3, (x3_5 : Sl).v)] := hE
  replace H : (rambleref05_Cut_l1 self1 (x0_4, x3_5)).wp w.heap Q := H
  unfold rambleref05_Cut_l1 at H
  refine w_seq (fun K hK_7 => ?_)
  refine w_seq (fun K hK_8 => ?_)
  refine t_region ?_
  refine t_val (v := (x0_4 : Sl).v) rfl rfl hE rfl (r_move hE rfl) (fun a hE => ?_)
  refine t_val (v := .int .i64 (x0_4.len : Int)) rfl rfl hE rfl (r_len hE rfl 5 un22) (fun a hE => ?_)
  refine t_val (v := .bool (decide ((x0_4.len : Int) > 0))) rfl rfl hE rfl (r_bin hE rfl rfl g_int b_gtr) (fun a hE => ?_)
  refine t_nil ?_
  refine hK_8 _ _ ?_
  refine w_cond (decide ((x0_4.len : Int) > 0)) hE rfl (fun hb => ?_) (fun hb => ?_)
  · replace H := M.ite_t hb H
    refine w_skip ?_
    refine hK_7 _ _ ?_
    refine w_block ?_
    refine w_seq (fun K hK_9 => ?_)
    refine t_region ?_
    refine t_val (v := (x0_4 : Sl).v) rfl rfl hE rfl (r_move hE rfl) (fun a hE => ?_)
    refine t_val (v := .int .i64 (x0_4.len : Int)) rfl rfl hE rfl (r_len hE rfl 5 un22) (fun a hE => ?_)
    refine t_val (v := .int .i64 (iMin (x0_4.len : Int) 112)) rfl rfl hE rfl (r_min hE rfl rfl) (fun a hE => ?_)
    refine t_val (v := .int .i64 (iMin (x0_4.len : Int) 112)) rfl rfl hE rfl (r_assign hE rfl) (fun a hE => ?_)
    refine t_nil ?_
    refine hK_9 _ _ ?_
    refine w_seq (fun K hK_10 => ?_)
    refine t_region ?_
    refine t_val (v := (x3_5 : Sl).v) rfl rfl hE rfl (r_move hE rfl) (fun a hE => ?_)
    refine t_val (v := (x0_4 : Sl).v) rfl rfl hE rfl (r_move hE rfl) (fun a hE => ?_)
    refine t_val (v := .int .i64 (iMin (x0_4.len : Int) 112)) rfl rfl hE rfl (r_move hE rfl) (fun a hE => ?_)
    obtain ⟨x14_11, qx14_11, H⟩ := H
    refine t_val (v := (x14_11 : Sl).v) rfl rfl hE rfl (r_sliceL_h hE rfl rfl un22 sz5 qx14_11) (fun a hE => ?_)
    refine t_ex (fun x15_12 => (x15_12 : Sl).v) rfl rfl hR (M.unbind H) (fun Q H => ap_run hE rfl rfl ap22 H) (fun x15_12 a w ea hR H => ?_)
    have hE := Env.put_some hE rfl ea; clear ea
    obtain ⟨x16_13, qx16_13, H⟩ := H
    refine t_valh (v := (x16_13 : Sl).v) rfl rfl hE rfl hR (r_buildL (cells := #[(x15_12 : Sl).v]) hE rfl un38 sz22 zr22 rfl rfl qx16_13) (fun a w hE hR hh => ?_)
    replace H := M.at hh H; clear hh
    refine t_ex (fun x17_14 => (x17_14 : Sl).v) rfl rfl hR (M.unbind H) (fun Q H => ap_run hE rfl rfl ap38 H) (fun x17_14 a w ea hR H => ?_)
    have hE := Env.put_some hE rfl ea; clear ea
    refine t_val (v := (x17_14 : Sl).v) rfl rfl hE rfl (r_assign hE rfl) (fun a hE => ?_)
    refine t_nil ?_
    refine hK_10 _ _ ?_
    refine t_region ?_
    refine t_val (v := (x0_4 : Sl).v) rfl rfl hE rfl (r_move hE rfl) (fun a hE => ?_)
    refine t_val (v := .int .i64 (iMin (x0_4.len : Int) 112)) rfl rfl hE rfl (r_move hE rfl) (fun a hE => ?_)
    obtain ⟨x20_15, qx20_15, H⟩ := H
    refine t_val (v := (x20_15 : Sl).v) rfl rfl hE rfl (r_sliceL_l hE rfl rfl un22 sz5 qx20_15) (fun a hE => ?_)
    refine t_val (v := (x20_15 : Sl).v) rfl rfl hE rfl (r_assign hE rfl) (fun a hE => ?_)
    refine t_nil ?_
    exact hY_6 (x20_15, x17_14) _ _ (hE.cut (.cons rfl (.cons rfl Subs.nil))) hR H
  · replace H := M.ite_f hb H
    refine w_exit ?_
    refine Xu.same ?_
    refine hK_3 _ _ ?_
    refine w_seq (fun K hK_16 => ?_)
    refine t_region ?_
    refine t_val (v := (x3_5 : Sl).v) rfl rfl hE rfl (r_move hE rfl) (fun a hE => ?_)
    refine t_val (v := (x3_5 : Sl).v) rfl rfl hE rfl (r_assign hE rfl) (fun a hE => ?_)
    refine t_nil ?_
    refine hK_16 _ _ ?_
    refine w_ret ?_
    exact hret _ _ _ x3_5 _ hE hR (res_run hE rfl (RV.tmp rfl RV.nil)) rfl H

/-- slices.EqualFunc[[][]byte,[][]byte,[]byte,[]byte] -/
def slices_EqualFunc_byte_byte_byte_byte_l1 (c1_8 : Sl) (c2_9 : Value) (c15_10 : Sl) (c16_11 : Int) (self1 : (Int) → M (Bool)) : (Int) → M (Bool) := fun s => match s with
  | x17_7 => do
    M.ite (decide (x17_7 < c16_11)) (do
      let x20_17 ← ixL c15_10 x17_7 1
      let x21_18 ← ldL x20_17
      let x24_20 ← ixL c1_8 x17_7 1
      let x25_21 ← ldL x24_20
      let x29_23 ← callV Go.Proofs.Try.prog (fun r : Bool => .bool r) c2_9 [(x21_18 : Sl).v, (x25_21 : Sl).v]
      M.ite (!x29_23) (do
        M.pure false
        ) (do
        self1 (IntKind.wrap .i64 (x17_7 + 1))
        )
      ) (do
      M.pure true
      )
def slices_EqualFunc_byte_byte_byte_byte (x0 : Sl) (x1 : Sl) (x2 : Value) : M (Bool) := do
  M.ite ((x0.len : Int) != (x1.len : Int)) (do
    M.pure false
    ) (do
    M.loop (slices_EqualFunc_byte_byte_byte_byte_l1 x1 x2 x0 (x0.len : Int)) 0
    )
theorem S_slices_EqualFunc_byte_byte_byte_byte (x0 : Sl) (x1 : Sl) (x2 : Value) : Sound Go.Proofs.Try.prog 18 #[(x0 : Sl).v, (x1 : Sl).v, x2] (fun (r : Bool) => .bool r) (slices_EqualFunc_byte_byte_byte_byte x0 x1 x2) := by
  refine sound_of [(0, (x0 : Sl).v), (1, (x1 : Sl).v), (2, x2)] Go.Proofs.Try.func18 rfl rfl (Nat.le_of_ble_eq_true rfl) (args_of ⟨rfl, rfl, rfl, trivial⟩) (fun w0 w Q R a hret hE hR H => ?_)
  unfold slices_EqualFunc_byte_byte_byte_byte at H
  refine w_seq (fun K hK_1 => ?_)
  refine t_region ?_
  refine t_val (v := .bool false) rfl rfl hE rfl (r_assign hE rfl) (fun a hE => ?_)
  refine t_nil ?_
  refine hK_1 _ _ ?_
  refine w_seq (fun K hK_2 => ?_)
  refine w_seq (fun K hK_3 => ?_)
  refine t_region ?_
  refine t_val (v := (x0 : Sl).v) rfl rfl hE rfl (r_move hE rfl) (fun a hE => ?_)
  refine t_val (v := .int .i64 (x0.len : Int)) rfl rfl hE rfl (r_len hE rfl 22 un38) (fun a hE => ?_)
  refine t_val (v := (x1 : Sl).v) rfl rfl hE rfl (r_move hE rfl) (fun a hE => ?_)
  refine t_val (v := .int .i64 (x1.len : Int)) rfl rfl hE rfl (r_len hE rfl 22 un38) (fun a hE => ?_)
  refine t_val (v := .bool ((x0.len : Int) != (x1.len : Int))) rfl rfl hE rfl (r_bin hE rfl rfl g_int b_neq) (fun a hE => ?_)
  refine t_nil ?_
  refine hK_3 _ _ ?_
  refine w_cond ((x0.len : Int) != (x1.len : Int)) hE rfl (fun hb => ?_) (fun hb => ?_)
  · replace H := M.ite_t hb H
    refine w_seq (fun K hK_4 => ?_)
    refine t_region ?_
    refine t_val (v := .bool false) rfl rfl hE rfl (r_assign hE rfl) (fun a hE => ?_)
    refine t_nil ?_
    refine hK_4 _ _ ?_
    refine w_ret ?_
    exact hret _ _ _ false _ hE hR (res_run hE rfl (RV.tmp rfl RV.nil)) rfl H
  · replace H := M.ite_f hb H
    refine w_skip ?_
    refine hK_2 _ _ ?_
    refine w_seq (fun K hK_5 => ?_)
    refine w_seq (fun K hK_6 => ?_)
    refine t_region ?_
    refine t_val (v := (x0 : Sl).v) rfl rfl hE rfl (r_move hE rfl) (fun a hE => ?_)
    refine t_val (v := .int .i64 (x0.len : Int)) rfl rfl hE rfl (r_len hE rfl 22 un38) (fun a hE => ?_)
    refine t_val (v := .int .i64 0) rfl rfl hE rfl (r_move hE rfl) (fun a hE => ?_)
    refine t_nil ?_
    refine hK_6 _ _ ?_
    refine w_block ?_
    refine l_loop (fun (s : Int) => (⟨32, []⟩ : Frm)) (fun (s : Int) => [(1, (x1 : Sl).v), (2, x2), (15, (x0 : Sl).v), (16, .int .i64 (x0.len : Int)), (17, .int .i64 s)]) H (hE.cut (.cons rfl (.cons rfl (.cons rfl (.cons rfl (.cons rfl Subs.nil)))))) hR (fun Y self1 hY_12 x17_7 a w hE hR H => ?_)
    replace hE : Env (⟨32, []⟩ : Frm) a [(1, (x1 : Sl).v), (2, x2), (15, (x0 : Sl).v), (16, .int .i64 (x0.len : Int)), (17, .int .i64 x17_7)] := hE
    replace H : (slices_EqualFunc_byte_byte_byte_byte_l1 x1 x2 x0 (x0.len : Int) self1 x17_7).wp w.heap Q := H
    unfold slices_EqualFunc_byte_byte_byte_byte_l1 at H
    refine w_seq (fun K hK_13 => ?_)
    refine t_region ?_
    refine t_val (v := .bool (decide (x17_7 < (x0.len : Int)))) rfl rfl hE rfl (r_bin hE rfl rfl g_int b_lss) (fun a hE => ?_)
    refine t_nil ?_
    refine hK_13 _ _ ?_
    refine w_seq (fun K hK_14 => ?_)
    refine w_cond (decide (x17_7 < (x0.len : Int))) hE rfl (fun hb => ?_) (fun hb => ?_)
    · replace H := M.ite_t hb H
      refine w_skip ?_
      refine hK_14 _ _ ?_
      refine w_seq (fun K hK_15 => ?_)
      refine w_block ?_
      refine w_seq (fun K hK_16 => ?_)
      refine t_region ?_
      refine t_val (v := .int .i64 x17_7) rfl rfl hE rfl (r_move hE rfl) (fun a hE => ?_)
      obtain ⟨x20_17, qx20_17, H⟩ := H
      refine t_val (v := .pointer (some x20_17)) rfl rfl hE rfl (r_indexAddrL hE rfl rfl un38 sz22 qx20_17) (fun a hE => ?_)
      obtain ⟨x21_18, qx21_18, H⟩ := H
      refine t_val (v := (x21_18 : Sl).v) rfl rfl hE rfl (r_load hE rfl sc22 qx21_18) (fun a hE => ?_)
      refine t_val (v := .int .i64 x17_7) rfl rfl hE rfl (r_assign hE rfl) (fun a hE => ?_)
      refine t_val (v := (x21_18 : Sl).v) rfl rfl hE rfl (r_assign hE rfl) (fun a hE => ?_)
      refine t_nil ?_
      refine hK_16 _ _ ?_
      refine w_seq (fun K hK_19 => ?_)
      refine t_region ?_
      refine t_val (v := (x1 : Sl).v) rfl rfl hE rfl (r_move hE rfl) (fun a hE => ?_)
      refine t_val (v := .int .i64 x17_7) rfl rfl hE rfl (r_move hE rfl) (fun a hE => ?_)
      obtain ⟨x24_20, qx24_20, H⟩ := H
      refine t_val (v := .pointer (some x24_20)) rfl rfl hE rfl (r_indexAddrL hE rfl rfl un38 sz22 qx24_20) (fun a hE => ?_)
      obtain ⟨x25_21, qx25_21, H⟩ := H
      refine t_val (v := (x25_21 : Sl).v) rfl rfl hE rfl (r_load hE rfl sc22 qx25_21) (fun a hE => ?_)
      refine t_val (v := (x25_21 : Sl).v) rfl rfl hE rfl (r_assign hE rfl) (fun a hE => ?_)
      refine t_nil ?_
      refine hK_19 _ _ ?_
      refine w_seq (fun K hK_22 => ?_)
      refine t_region ?_
      refine t_val (v := x2) rfl rfl hE rfl (r_move hE rfl) (fun a hE => ?_)
      refine t_val (v := (x21_18 : Sl).v) rfl rfl hE rfl (r_move hE rfl) (fun a hE => ?_)
      refine t_val (v := (x25_21 : Sl).v) rfl rfl hE rfl (r_move hE rfl) (fun a hE => ?_)
      refine t_callV hE hR rfl rfl (M.unbind H) (fun x29_23 a w ea hR H => ?_)
      have hE := Env.put_some hE rfl ea; clear ea
      refine t_val (v := .bool (!x29_23)) rfl rfl hE rfl (r_un hE rfl u_not) (fun a hE => ?_)
      refine t_nil ?_
      refine hK_22 _ _ ?_
      refine w_cond (!x29_23) hE rfl (fun hb => ?_) (fun hb => ?_)
      · replace H := M.ite_t hb H
        refine w_seq (fun K hK_24 => ?_)
        refine t_region ?_
        refine t_val (v := .bool false) rfl rfl hE rfl (r_assign hE rfl) (fun a hE => ?_)
        refine t_nil ?_
        refine hK_24 _ _ ?_
        refine w_ret ?_
        exact hret _ _ _ false _ hE hR (res_run hE rfl (RV.tmp rfl RV.nil)) rfl H
      · replace H := M.ite_f hb H
        refine w_skip ?_
        refine hK_15 _ _ ?_
        refine t_region ?_
        refine t_val (v := .int .i64 (IntKind.wrap .i64 (x17_7 + 1))) rfl rfl hE rfl (r_bin hE rfl rfl g_int b_add) (fun a hE => ?_)
        refine t_val (v := .int .i64 (IntKind.wrap .i64 (x17_7 + 1))) rfl rfl hE rfl (r_move hE rfl) (fun a hE => ?_)
        refine t_nil ?_
        exact hY_12 (IntKind.wrap .i64 (x17_7 + 1)) _ _ (hE.cut (.cons rfl (.cons rfl (.cons rfl (.cons rfl (.cons rfl Subs.nil)))))) hR H
    · replace H := M.ite_f hb H
      refine w_exit ?_
      refine Xu.same ?_
      refine hK_5 _ _ ?_
      refine w_seq (fun K hK_25 => ?_)
      refine t_region ?_
      refine t_val (v := .bool true) rfl rfl hE rfl (r_assign hE rfl) (fun a hE => ?_)
      refine t_nil ?_
      refine hK_25 _ _ ?_
      refine w_ret ?_
      exact hret _ _ _ true _ hE hR (res_run hE rfl (RV.tmp rfl RV.nil)) rfl H

/-- bytes.Equal -/
def bytes_Equal (x0 : Sl) (x1 : Sl) : M (Bool) := do
  let x6_3 ← b2s x0
  let x8_4 ← b2s x1
  M.pure (sEq x6_3 x8_4)
theorem S_bytes_Equal (x0 : Sl) (x1 : Sl) : Sound Go.Proofs.Try.prog 19 #[(x0 : Sl).v, (x1 : Sl).v] (fun (r : Bool) => .bool r) (bytes_Equal x0 x1) := by
  refine sound_of [(0, (x0 : Sl).v), (1, (x1 : Sl).v)] Go.Proofs.Try.func19 rfl rfl (Nat.le_of_ble_eq_true rfl) (args_of ⟨rfl, rfl, trivial⟩) (fun w0 w Q R a hret hE hR H => ?_)
  unfold bytes_Equal at H
  refine w_seq (fun K hK_1 => ?_)
  refine t_region ?_
  refine t_val (v := .bool false) rfl rfl hE rfl (r_assign hE rfl) (fun a hE => ?_)
  refine t_nil ?_
  refine hK_1 _ _ ?_
  refine w_seq (fun K hK_2 => ?_)
  refine t_region ?_
  refine t_val (v := (x0 : Sl).v) rfl rfl hE rfl (r_move hE rfl) (fun a hE => ?_)
  obtain ⟨x6_3, qx6_3, H⟩ := H
  refine t_val (v := .string x6_3) rfl rfl hE rfl (b2s_run hE rfl un22 un9 un5 qx6_3) (fun a hE => ?_)
  refine t_val (v := (x1 : Sl).v) rfl rfl hE rfl (r_move hE rfl) (fun a hE => ?_)
  obtain ⟨x8_4, qx8_4, H⟩ := H
  refine t_val (v := .string x8_4) rfl rfl hE rfl (b2s_run hE rfl un22 un9 un5 qx8_4) (fun a hE => ?_)
  refine t_val (v := .bool (sEq x6_3 x8_4)) rfl rfl hE rfl (r_bin hE rfl rfl g_str b_eqlS) (fun a hE => ?_)
  refine t_val (v := .bool (sEq x6_3 x8_4)) rfl rfl hE rfl (r_assign hE rfl) (fun a hE => ?_)
  refine t_nil ?_
  refine hK_2 _ _ ?_
  refine w_ret ?_
  exact hret _ _ _ (sEq x6_3 x8_4) _ hE hR (res_run hE rfl (RV.tmp rfl RV.nil)) rfl H

/-- slices.Grow[[]byte,byte] -/
def slices_Grow_byte_byte_j2 (x0_4 : Sl) : M (Sl) := do
  M.pure x0_4
def slices_Grow_byte_byte_j1 (c0_2 : Sl) (c1_3 : Int) : M (Sl) := do
  M.ite (decide ((IntKind.wrap .i64 (c1_3 - (IntKind.wrap .i64 ((c0_2.cap : Int) - (c0_2.len : Int))))) > 0)) (do
    let x20_8 ← slL c0_2 0 (c0_2.cap : Int) 1
    let x22_9 ← apM ty_uint8 1 1 (#[.int .u8 0] : Array Value) x20_8 (IntKind.wrap .i64 (c1_3 - (IntKind.wrap .i64 ((c0_2.cap : Int) - (c0_2.len : Int)))))
    let x25_10 ← slL x22_9 0 (c0_2.len : Int) 1
    slices_Grow_byte_byte_j2 x25_10
    ) (do
    slices_Grow_byte_byte_j2 c0_2
    )
def slices_Grow_byte_byte (x0 : Sl) (x1 : Int) : M (Sl) := do
  M.ite (decide (x1 < 0)) (do
    M.fail
    ) (do
    slices_Grow_byte_byte_j1 x0 x1
    )
theorem S_slices_Grow_byte_byte (x0 : Sl) (x1 : Int) : Sound Go.Proofs.Try.prog 50 #[(x0 : Sl).v, .int .i64 x1] (fun (r : Sl) => (r : Sl).v) (slices_Grow_byte_byte x0 x1) := by
  refine sound_of [(0, (x0 : Sl).v), (1, .int .i64 x1)] Go.Proofs.Try.func50 rfl rfl (Nat.le_of_ble_eq_true rfl) (args_of ⟨rfl, rfl, trivial⟩) (fun w0 w Q R a hret hE hR H => ?_)
  unfold slices_Grow_byte_byte at H
  refine w_seq (fun K hK_1 => ?_)
  refine t_region ?_
  refine t_val (v := (Sl.nil : Sl).v) rfl rfl hE rfl (r_assign hE rfl) (fun a hE => ?_)
  refine t_nil ?_
  refine hK_1 _ _ ?_
  refine w_seq_join (fun a w => Env (⟨27, []⟩ : Frm) a [(0, (x0 : Sl).v), (1, .int .i64 x1)] ∧ Rest w0 w ∧ (slices_Grow_byte_byte_j1 x0 x1).wp w.heap Q) ?_ ?_
  · rintro a w ⟨hE, hR, H⟩
    unfold slices_Grow_byte_byte_j1 at H
    refine w_seq_join (fun a w => ∃ (x0_4 : Sl), Env (⟨27, []⟩ : Frm) a [(0, (x0_4 : Sl).v)] ∧ Rest w0 w ∧ (slices_Grow_byte_byte_j2 x0_4).wp w.heap Q) ?_ ?_
    · rintro a w ⟨x0_4, hE, hR, H⟩
      unfold slices_Grow_byte_byte_j2 at H
      refine w_seq (fun K hK_5 => ?_)
      refine t_region ?_
      refine t_val (v := (x0_4 : Sl).v) rfl rfl hE rfl (r_move hE rfl) (fun a hE => ?_)
      refine t_val (v := (x0_4 : Sl).v) rfl rfl hE rfl (r_assign hE rfl) (fun a hE => ?_)
      refine t_nil ?_
      refine hK_5 _ _ ?_
      refine w_ret ?_
      exact hret _ _ _ x0_4 _ hE hR (res_run hE rfl (RV.tmp rfl RV.nil)) rfl H
    · skip
      refine w_seq (fun K hK_6 => ?_)
      refine t_region ?_
      refine t_val (v := .int .i64 x1) rfl rfl hE rfl (r_move hE rfl) (fun a hE => ?_)
      refine t_val (v := (x0 : Sl).v) rfl rfl hE rfl (r_move hE rfl) (fun a hE => ?_)
      refine t_val (v := .int .i64 (x0.cap : Int)) rfl rfl hE rfl (r_cap hE rfl 5 un22) (fun a hE => ?_)
      refine t_val (v := (x0 : Sl).v) rfl rfl hE rfl (r_move hE rfl) (fun a hE => ?_)
      refine t_val (v := .int .i64 (x0.len : Int)) rfl rfl hE rfl (r_len hE rfl 5 un22) (fun a hE => ?_)
      refine t_val (v := .int .i64 (IntKind.wrap .i64 ((x0.cap : Int) - (x0.len : Int)))) rfl rfl hE rfl (r_bin hE rfl rfl g_int b_sub) (fun a hE => ?_)
      refine t_val (v := .int .i64 (IntKind.wrap .i64 (x1 - (IntKind.wrap .i64 ((x0.cap : Int) - (x0.len : Int)))))) rfl rfl hE rfl (r_bin hE rfl rfl g_int b_sub) (fun a hE => ?_)
      refine t_val (v := .int .i64 (IntKind.wrap .i64 (x1 - (IntKind.wrap .i64 ((x0.cap : Int) - (x0.len : Int)))))) rfl rfl hE rfl (r_assign hE rfl) (fun a hE => ?_)
      refine t_nil ?_
      refine hK_6 _ _ ?_
      refine w_seq (fun K hK_7 => ?_)
      refine t_region ?_
      refine t_val (v := .int .i64 (IntKind.wrap .i64 (x1 - (IntKind.wrap .i64 ((x0.cap : Int) - (x0.len : Int)))))) rfl rfl hE rfl (r_move hE rfl) (fun a hE => ?_)
      refine t_val (v := .bool (decide ((IntKind.wrap .i64 (x1 - (IntKind.wrap .i64 ((x0.cap : Int) - (x0.len : Int))))) > 0))) rfl rfl hE rfl (r_bin hE rfl rfl g_int b_gtr) (fun a hE => ?_)
      refine t_nil ?_
      refine hK_7 _ _ ?_
      refine w_cond (decide ((IntKind.wrap .i64 (x1 - (IntKind.wrap .i64 ((x0.cap : Int) - (x0.len : Int))))) > 0)) hE rfl (fun hb => ?_) (fun hb => ?_)
      · replace H := M.ite_t hb H
        refine t_region ?_
        refine t_val (v := (x0 : Sl).v) rfl rfl hE rfl (r_move hE rfl) (fun a hE => ?_)
        refine t_val (v := (x0 : Sl).v) rfl rfl hE rfl (r_move hE rfl) (fun a hE => ?_)
        refine t_val (v := .int .i64 (x0.cap : Int)) rfl rfl hE rfl (r_cap hE rfl 5 un22) (fun a hE => ?_)
        obtain ⟨x20_8, qx20_8, H⟩ := H
        refine t_val (v := (x20_8 : Sl).v) rfl rfl hE rfl (r_sliceL_h hE rfl rfl un22 sz5 qx20_8) (fun a hE => ?_)
        refine t_val (v := .int .i64 (IntKind.wrap .i64 (x1 - (IntKind.wrap .i64 ((x0.cap : Int) - (x0.len : Int)))))) rfl rfl hE rfl (r_move hE rfl) (fun a hE => ?_)
        refine t_ex (fun x22_9 => (x22_9 : Sl).v) rfl rfl hR (M.unbind H) (fun Q H => apM_run hE rfl rfl ap22 un3 rfl H) (fun x22_9 a w ea hR H => ?_)
        have hE := Env.put_some hE rfl ea; clear ea
        refine t_val (v := (x0 : Sl).v) rfl rfl hE rfl (r_move hE rfl) (fun a hE => ?_)
        refine t_val (v := .int .i64 (x0.len : Int)) rfl rfl hE rfl (r_len hE rfl 5 un22) (fun a hE => ?_)
        obtain ⟨x25_10, qx25_10, H⟩ := H
        refine t_val (v := (x25_10 : Sl).v) rfl rfl hE rfl (r_sliceL_h hE rfl rfl un22 sz5 qx25_10) (fun a hE => ?_)
        refine t_val (v := (x25_10 : Sl).v) rfl rfl hE rfl (r_assign hE rfl) (fun a hE => ?_)
        refine t_nil ?_
        exact ⟨x25_10, hE.cut (.cons rfl Subs.nil), hR, H⟩
      · replace H := M.ite_f hb H
        refine w_skip ?_
        exact ⟨x0, hE.cut (.cons rfl Subs.nil), hR, H⟩
  · skip
    refine w_seq (fun K hK_11 => ?_)
    refine t_region ?_
    refine t_val (v := .int .i64 x1) rfl rfl hE rfl (r_move hE rfl) (fun a hE => ?_)
    refine t_val (v := .bool (decide (x1 < 0))) rfl rfl hE rfl (r_bin hE rfl rfl g_int b_lss) (fun a hE => ?_)
    refine t_nil ?_
    refine hK_11 _ _ ?_
    refine w_cond (decide (x1 < 0)) hE rfl (fun hb => ?_) (fun hb => ?_)
    · replace H := M.ite_t hb H
      exact False.elim H
    · replace H := M.ite_f hb H
      refine w_skip ?_
      exact ⟨hE.cut (.cons rfl (.cons rfl Subs.nil)), hR, H⟩

/-- slices.Concat[[]byte,byte] -/
def slices_Concat_byte_byte_j1 (self1 : (Int × Int) → M (Sl)) (c11_17 : Int) (x3_13 : Int) : M (Sl) := do
  self1 (x3_13, IntKind.wrap .i64 (c11_17 + 1))
def slices_Concat_byte_byte_l2 (c25_29 : Sl) (c26_30 : Int) (self2 : (Sl × Int) → M (Sl)) : (Sl × Int) → M (Sl) := fun s => match s with
  | (x6_27, x27_28) => do
    M.ite (decide (x27_28 < c26_30)) (do
      let x29_36 ← ixL c25_29 x27_28 1
      let x30_37 ← ldL x29_36
      let x33_38 ← apL ty_uint8 1 1 (#[.int .u8 0] : Array Value) x6_27 x30_37
      self2 (x33_38, IntKind.wrap .i64 (x27_28 + 1))
      ) (do
      M.pure x6_27
      )
def slices_Concat_byte_byte_l1 (c0_7 : Sl) (c9_8 : Sl) (c10_9 : Int) (self1 : (Int × Int) → M (Sl)) : (Int × Int) → M (Sl) := fun s => match s with
  | (x3_5, x11_6) => do
    M.ite (decide (x11_6 < c10_9)) (do
      let x13_19 ← ixL c9_8 x11_6 1
      let x14_20 ← ldL x13_19
      M.ite (decide ((IntKind.wrap .i64 (x3_5 + (x14_20.len : Int))) < 0)) (do
        M.fail
        ) (do
        slices_Concat_byte_byte_j1 self1 x11_6 (IntKind.wrap .i64 (x3_5 + (x14_20.len : Int)))
        )
      ) (do
      let x24_24 ← slices_Grow_byte_byte Sl.nil x3_5
      M.loop (slices_Concat_byte_byte_l2 c0_7 (c0_7.len : Int)) (x24_24, 0)
      )
def slices_Concat_byte_byte (x0 : Sl) : M (Sl) := do
  M.loop (slices_Concat_byte_byte_l1 x0 x0 (x0.len : Int)) (0, 0)
theorem S_slices_Concat_byte_byte (x0 : Sl) : Sound Go.Proofs.Try.prog 38 #[(x0 : Sl).v] (fun (r : Sl) => (r : Sl).v) (slices_Concat_byte_byte x0) := by
  refine sound_of [(0, (x0 : Sl).v)] Go.Proofs.Try.func38 rfl rfl (Nat.le_of_ble_eq_true rfl) (args_of ⟨rfl, trivial⟩) (fun w0 w Q R a hret hE hR H => ?_)
  unfold slices_Concat_byte_byte at H
  refine w_seq (fun K hK_1 => ?_)
  refine t_region ?_
  refine t_val (v := (Sl.nil : Sl).v) rfl rfl hE rfl (r_assign hE rfl) (fun a hE => ?_)
  refine t_nil ?_
  refine hK_1 _ _ ?_
  refine w_seq (fun K hK_2 => ?_)
  refine t_region ?_
  refine t_val (v := .int .i64 0) rfl rfl hE rfl (r_assign hE rfl) (fun a hE => ?_)
  refine t_nil ?_
  refine hK_2 _ _ ?_
  refine w_seq (fun K hK_3 => ?_)
  refine w_seq (fun K hK_4 => ?_)
  refine t_region ?_
  refine t_val (v := (x0 : Sl).v) rfl rfl hE rfl (r_move hE rfl) (fun a hE => ?_)
  refine t_val (v := .int .i64 (x0.len : Int)) rfl rfl hE rfl (r_len hE rfl 22 un38) (fun a hE => ?_)
  refine t_val (v := .int .i64 0) rfl rfl hE rfl (r_move hE rfl) (fun a hE => ?_)
  refine t_nil ?_
  refine hK_4 _ _ ?_
  refine w_block ?_
  refine l_loop (fun (s : Int × Int) => (⟨36, []⟩ : Frm)) (fun (s : Int × Int) => [(0, (x0 : Sl).v), (3, .int .i64 s.1), (9, (x0 : Sl).v), (10, .int .i64 (x0.len : Int)), (11, .int .i64 s.2)]) H (hE.cut (.cons rfl (.cons rfl (.cons rfl (.cons rfl (.cons rfl Subs.nil)))))) hR (fun Y self1 hY_10 s a w hE hR H => ?_)
  rcases s with ⟨x3_5, x11_6⟩
  replace hE : Env (⟨36, []⟩ : Frm) a [(0, (x0 : Sl).v), (3, .int .i64 x3_5), (9, (x0 : Sl).v), (10, .int .i64 (x0.len : Int)), (11, .int .i64 x11_6)] := hE
  replace H : (slices_Concat_byte_byte_l1 x0 x0 (x0.len : Int) self1 (x3_5, x11_6)).wp w.heap Q := H
  unfold slices_Concat_byte_byte_l1 at H
  refine w_seq (fun K hK_11 => ?_)
  refine t_region ?_
  refine t_val (v := .bool (decide (x11_6 < (x0.len : Int)))) rfl rfl hE rfl (r_bin hE rfl rfl g_int b_lss) (fun a hE => ?_)
  refine t_nil ?_
  refine hK_11 _ _ ?_
  refine w_seq (fun K hK_12 => ?_)
  refine w_cond (decide (x11_6 < (x0.len : Int))) hE rfl (fun hb => ?_) (fun hb => ?_)
  · replace H := M.ite_t hb H
    refine w_skip ?_
    refine hK_12 _ _ ?_
    refine w_seq_join (fun a w => ∃ (x3_13 : Int), Env (⟨36, []⟩ : Frm) a [(0, (x0 : Sl).v), (9, (x0 : Sl).v), (10, .int .i64 (x0.len : Int)), (11, .int .i64 x11_6), (3, .int .i64 x3_13)] ∧ Rest w0 w ∧ (slices_Concat_byte_byte_j1 self1 x11_6 x3_13).wp w.heap Q) ?_ ?_
    · rintro a w ⟨x3_13, hE, hR, H⟩
      unfold slices_Concat_byte_byte_j1 at H
      refine t_region ?_
      refine t_val (v := .int .i64 (IntKind.wrap .i64 (x11_6 + 1))) rfl rfl hE rfl (r_bin hE rfl rfl g_int b_add) (fun a hE => ?_)
      refine t_val (v := .int .i64 (IntKind.wrap .i64 (x11_6 + 1))) rfl rfl hE rfl (r_move hE rfl) (fun a hE => ?_)
      refine t_nil ?_
      exact hY_10 (x3_13, IntKind.wrap .i64 (x11_6 + 1)) _ _ (hE.cut (.cons rfl (.cons rfl (.cons rfl (.cons rfl (.cons rfl Subs.nil)))))) hR H
    · skip
      refine w_block ?_
      refine w_seq (fun K hK_18 => ?_)
      refine t_region ?_
      obtain ⟨x13_19, qx13_19, H⟩ := H
      refine t_val (v := .pointer (some x13_19)) rfl rfl hE rfl (r_indexAddrL hE rfl rfl un38 sz22 qx13_19) (fun a hE => ?_)
      obtain ⟨x14_20, qx14_20, H⟩ := H
      refine t_val (v := (x14_20 : Sl).v) rfl rfl hE rfl (r_load hE rfl sc22 qx14_20) (fun a hE => ?_)
      refine t_val (v := (x14_20 : Sl).v) rfl rfl hE rfl (r_assign hE rfl) (fun a hE => ?_)
      refine t_nil ?_
      refine hK_18 _ _ ?_
      refine w_seq (fun K hK_21 => ?_)
      refine t_region ?_
      refine t_val (v := .int .i64 x3_5) rfl rfl hE rfl (r_move hE rfl) (fun a hE => ?_)
      refine t_val (v := (x14_20 : Sl).v) rfl rfl hE rfl (r_move hE rfl) (fun a hE => ?_)
      refine t_val (v := .int .i64 (x14_20.len : Int)) rfl rfl hE rfl (r_len hE rfl 5 un22) (fun a hE => ?_)
      refine t_val (v := .int .i64 (IntKind.wrap .i64 (x3_5 + (x14_20.len : Int)))) rfl rfl hE rfl (r_bin hE rfl rfl g_int b_add) (fun a hE => ?_)
      refine t_val (v := .int .i64 (IntKind.wrap .i64 (x3_5 + (x14_20.len : Int)))) rfl rfl hE rfl (r_assign hE rfl) (fun a hE => ?_)
      refine t_nil ?_
      refine hK_21 _ _ ?_
      refine w_seq (fun K hK_22 => ?_)
      refine t_region ?_
      refine t_val (v := .int .i64 (IntKind.wrap .i64 (x3_5 + (x14_20.len : Int)))) rfl rfl hE rfl (r_move hE rfl) (fun a hE => ?_)
      refine t_val (v := .bool (decide ((IntKind.wrap .i64 (x3_5 + (x14_20.len : Int))) < 0))) rfl rfl hE rfl (r_bin hE rfl rfl g_int b_lss) (fun a hE => ?_)
      refine t_nil ?_
      refine hK_22 _ _ ?_
      refine w_cond (decide ((IntKind.wrap .i64 (x3_5 + (x14_20.len : Int))) < 0)) hE rfl (fun hb => ?_) (fun hb => ?_)
      · replace H := M.ite_t hb H
        exact False.elim H
      · replace H := M.ite_f hb H
        refine w_skip ?_
        exact ⟨IntKind.wrap .i64 (x3_5 + (x14_20.len : Int)), hE.cut (.cons rfl (.cons rfl (.cons rfl (.cons rfl (.cons rfl Subs.nil))))), hR, H⟩
  · replace H := M.ite_f hb H
    refine w_exit ?_
    refine Xu.same ?_
    refine hK_3 _ _ ?_
    refine w_seq (fun K hK_23 => ?_)
    refine t_region ?_
    refine t_val (v := .int .i64 x3_5) rfl rfl hE rfl (r_move hE rfl) (fun a hE => ?_)
    refine t_call hE hR cl_slices_Grow_byte_byte rfl (S_slices_Grow_byte_byte Sl.nil x3_5) (M.unbind H) (fun x24_24 a w ea hR H => ?_)
    have hE := Env.put_some hE rfl ea; clear ea
    refine t_val (v := (x24_24 : Sl).v) rfl rfl hE rfl (r_assign hE rfl) (fun a hE => ?_)
    refine t_nil ?_
    refine hK_23 _ _ ?_
    refine w_seq (fun K hK_25 => ?_)
    refine w_seq (fun K hK_26 => ?_)
    refine t_region ?_
    refine t_val (v := (x0 : Sl).v) rfl rfl hE rfl (r_move hE rfl) (fun a hE => ?_)
    refine t_val (v := .int .i64 (x0.len : Int)) rfl rfl hE rfl (r_len hE rfl 22 un38) (fun a hE => ?_)
    refine t_val (v := .int .i64 0) rfl rfl hE rfl (r_move hE rfl) (fun a hE => ?_)
    refine t_nil ?_
    refine hK_26 _ _ ?_
    refine w_block ?_
    refine l_loop (fun (s : Sl × Int) => (⟨36, []⟩ : Frm)) (fun (s : Sl × Int) => [(6, (s.1 : Sl).v), (25, (x0 : Sl).v), (26, .int .i64 (x0.len : Int)), (27, .int .i64 s.2)]) H (hE.cut (.cons rfl (.cons rfl (.cons rfl (.cons rfl Subs.nil))))) hR (fun Y self2 hY_31 s a w hE hR H => ?_)
    rcases s with ⟨x6_27, x27_28⟩
    replace hE : Env (⟨36, []⟩ : Frm) a [(6, (x6_27 : Sl).v), (25, (x0 : Sl).v), (26, .int .i64 (x0.len : Int)), (27, .int .i64 x27_28)] := hE
    replace H : (slices_Concat_byte_byte_l2 x0 (x0.len : Int) self2 (x6_27, x27_28)).wp w.heap Q := H
    unfold slices_Concat_byte_byte_l2 at H
    refine w_seq (fun K hK_32 => ?_)
    refine t_region ?_
    refine t_val (v := .bool (decide (x27_28 < (x0.len : Int)))) rfl rfl hE rfl (r_bin hE rfl rfl g_int b_lss) (fun a hE => ?_)
    refine t_nil ?_
    refine hK_32 _ _ ?_
    refine w_seq (fun K hK_33 => ?_)
    refine w_cond (decide (x27_28 < (x0.len : Int))) hE rfl (fun hb => ?_) (fun hb => ?_)
    · replace H := M.ite_t hb H
      refine w_skip ?_
      refine hK_33 _ _ ?_
      refine w_seq (fun K hK_34 => ?_)
      refine w_block ?_
      refine w_seq (fun K hK_35 => ?_)
      refine t_region ?_
      obtain ⟨x29_36, qx29_36, H⟩ := H
      refine t_val (v := .pointer (some x29_36)) rfl rfl hE rfl (r_indexAddrL hE rfl rfl un38 sz22 qx29_36) (fun a hE => ?_)
      obtain ⟨x30_37, qx30_37, H⟩ := H
      refine t_val (v := (x30_37 : Sl).v) rfl rfl hE rfl (r_load hE rfl sc22 qx30_37) (fun a hE => ?_)
      refine t_val (v := (x30_37 : Sl).v) rfl rfl hE rfl (r_assign hE rfl) (fun a hE => ?_)
      refine t_nil ?_
      refine hK_35 _ _ ?_
      refine t_region ?_
      refine t_val (v := (x6_27 : Sl).v) rfl rfl hE rfl (r_move hE rfl) (fun a hE => ?_)
      refine t_val (v := (x30_37 : Sl).v) rfl rfl hE rfl (r_move hE rfl) (fun a hE => ?_)
      refine t_ex (fun x33_38 => (x33_38 : Sl).v) rfl rfl hR (M.unbind H) (fun Q H => ap_run hE rfl rfl ap22 H) (fun x33_38 a w ea hR H => ?_)
      have hE := Env.put_some hE rfl ea; clear ea
      refine t_val (v := (x33_38 : Sl).v) rfl rfl hE rfl (r_assign hE rfl) (fun a hE => ?_)
      refine t_nil ?_
      refine hK_34 _ _ ?_
      refine t_region ?_
      refine t_val (v := .int .i64 (IntKind.wrap .i64 (x27_28 + 1))) rfl rfl hE rfl (r_bin hE rfl rfl g_int b_add) (fun a hE => ?_)
      refine t_val (v := .int .i64 (IntKind.wrap .i64 (x27_28 + 1))) rfl rfl hE rfl (r_move hE rfl) (fun a hE => ?_)
      refine t_nil ?_
      exact hY_31 (x33_38, IntKind.wrap .i64 (x27_28 + 1)) _ _ (hE.cut (.cons rfl (.cons rfl (.cons rfl (.cons rfl Subs.nil))))) hR H
    · replace H := M.ite_f hb H
      refine w_exit ?_
      refine Xu.same ?_
      refine hK_25 _ _ ?_
      refine w_seq (fun K hK_39 => ?_)
      refine t_region ?_
      refine t_val (v := (x6_27 : Sl).v) rfl rfl hE rfl (r_move hE rfl) (fun a hE => ?_)
      refine t_val (v := (x6_27 : Sl).v) rfl rfl hE rfl (r_assign hE rfl) (fun a hE => ?_)
      refine t_nil ?_
      refine hK_39 _ _ ?_
      refine w_ret ?_
      exact hret _ _ _ x6_27 _ hE hR (res_run hE rfl (RV.tmp rfl RV.nil)) rfl H

/-- ramble/sector.Join -/
def sector_Join (x0 : Sl) : M (Sl) := do
  let x4_3 ← slices_Concat_byte_byte x0
  M.pure x4_3
theorem S_sector_Join (x0 : Sl) : Sound Go.Proofs.Try.prog 20 #[(x0 : Sl).v] (fun (r : Sl) => (r : Sl).v) (sector_Join x0) := by
  refine sound_of [(0, (x0 : Sl).v)] Go.Proofs.Try.func20 rfl rfl (Nat.le_of_ble_eq_true rfl) (args_of ⟨rfl, trivial⟩) (fun w0 w Q R a hret hE hR H => ?_)
  unfold sector_Join at H
  refine w_seq (fun K hK_1 => ?_)
  refine t_region ?_
  refine t_val (v := (Sl.nil : Sl).v) rfl rfl hE rfl (r_assign hE rfl) (fun a hE => ?_)
  refine t_nil ?_
  refine hK_1 _ _ ?_
  refine w_seq (fun K hK_2 => ?_)
  refine t_region ?_
  refine t_val (v := (x0 : Sl).v) rfl rfl hE rfl (r_move hE rfl) (fun a hE => ?_)
  refine t_call hE hR cl_slices_Concat_byte_byte rfl (S_slices_Concat_byte_byte x0) (M.unbind H) (fun x4_3 a w ea hR H => ?_)
  have hE := Env.put_some hE rfl ea; clear ea
  refine t_val (v := (x4_3 : Sl).v) rfl rfl hE rfl (r_assign hE rfl) (fun a hE => ?_)
  refine t_nil ?_
  refine hK_2 _ _ ?_
  refine w_ret ?_
  exact hret _ _ _ x4_3 _ hE hR (res_run hE rfl (RV.tmp rfl RV.nil)) rfl H

/-- ramble/rambleref05.Join -/
def rambleref05_Join_l1 (c0_7 : Sl) (self1 : (Sl × Int) → M (Sl)) : (Sl × Int) → M (Sl) := fun s => match s with
  | (x3_5, x4_6) => do
    M.ite (decide (x4_6 < (c0_7.len : Int))) (do
      let x14_12 ← ixL c0_7 x4_6 1
      let x15_13 ← ldL x14_12
      let x16_14 ← apL ty_uint8 1 1 (#[.int .u8 0] : Array Value) x3_5 x15_13
      self1 (x16_14, IntKind.wrap .i64 (x4_6 + 1))
      ) (do
      M.pure x3_5
      )
def rambleref05_Join (x0 : Sl) : M (Sl) := do
  M.loop (rambleref05_Join_l1 x0) (Sl.nil, 0)
theorem S_rambleref05_Join (x0 : Sl) : Sound Go.Proofs.Try.prog 21 #[(x0 : Sl).v] (fun (r : Sl) => (r : Sl).v) (rambleref05_Join x0) := by
  refine sound_of [(0, (x0 : Sl).v)] Go.Proofs.Try.func21 rfl rfl (Nat.le_of_ble_eq_true rfl) (args_of ⟨rfl, trivial⟩) (fun w0 w Q R a hret hE hR H => ?_)
  unfold rambleref05_Join at H
  refine w_seq (fun K hK_1 => ?_)
  refine t_region ?_
  refine t_val (v := (Sl.nil : Sl).v) rfl rfl hE rfl (r_assign hE rfl) (fun a hE => ?_)
  refine t_nil ?_
  refine hK_1 _ _ ?_
  refine w_seq (fun K hK_2 => ?_)
  refine t_region ?_
  refine t_val (v := (Sl.nil : Sl).v) rfl rfl hE rfl (r_assign hE rfl) (fun a hE => ?_)
  refine t_nil ?_
  refine hK_2 _ _ ?_
  refine w_seq (fun K hK_3 => ?_)
  refine w_seq (fun K hK_4 => ?_)
  refine t_region ?_
  refine t_val (v := .int .i64 0) rfl rfl hE rfl (r_assign hE rfl) (fun a hE => ?_)
  refine t_nil ?_
  refine hK_4 _ _ ?_
  refine w_block ?_
  refine l_loop (fun (s : Sl × Int) => (⟨18, []⟩ : Frm)) (fun (s : Sl × Int) => [(0, (x0 : Sl).v), (3, (s.1 : Sl).v), (4, .int .i64 s.2)]) H (hE.cut (.cons rfl (.cons rfl (.cons rfl Subs.nil)))) hR (fun Y self1 hY_8 s a w hE hR H => ?_)
  rcases s with ⟨x3_5, x4_6⟩
  replace hE : Env (⟨18, []⟩ : Frm) a [(0, (x0 : Sl).v), (3, (x3_5 : Sl).v), (4, .int .i64 x4_6)] := hE
  replace H : (rambleref05_Join_l1 x0 self1 (x3_5, x4_6)).wp w.heap Q := H
  unfold rambleref05_Join_l1 at H
  refine w_seq (fun K hK_9 => ?_)
  refine w_seq (fun K hK_10 => ?_)
  refine t_region ?_
  refine t_val (v := .int .i64 x4_6) rfl rfl hE rfl (r_move hE rfl) (fun a hE => ?_)
  refine t_val (v := (x0 : Sl).v) rfl rfl hE rfl (r_move hE rfl) (fun a hE => ?_)
  refine t_val (v := .int .i64 (x0.len : Int)) rfl rfl hE rfl (r_len hE rfl 22 un38) (fun a hE => ?_)
  refine t_val (v := .bool (decide (x4_6 < (x0.len : Int)))) rfl rfl hE rfl (r_bin hE rfl rfl g_int b_lss) (fun a hE => ?_)
  refine t_nil ?_
  refine hK_10 _ _ ?_
  refine w_cond (decide (x4_6 < (x0.len : Int))) hE rfl (fun hb => ?_) (fun hb => ?_)
  · replace H := M.ite_t hb H
    refine w_skip ?_
    refine hK_9 _ _ ?_
    refine w_seq (fun K hK_11 => ?_)
    refine w_block ?_
    refine t_region ?_
    refine t_val (v := (x3_5 : Sl).v) rfl rfl hE rfl (r_move hE rfl) (fun a hE => ?_)
    refine t_val (v := (x0 : Sl).v) rfl rfl hE rfl (r_move hE rfl) (fun a hE => ?_)
    refine t_val (v := .int .i64 x4_6) rfl rfl hE rfl (r_move hE rfl) (fun a hE => ?_)
    obtain ⟨x14_12, qx14_12, H⟩ := H
    refine t_val (v := .pointer (some x14_12)) rfl rfl hE rfl (r_indexAddrL hE rfl rfl un38 sz22 qx14_12) (fun a hE => ?_)
    obtain ⟨x15_13, qx15_13, H⟩ := H
    refine t_val (v := (x15_13 : Sl).v) rfl rfl hE rfl (r_load hE rfl sc22 qx15_13) (fun a hE => ?_)
    refine t_ex (fun x16_14 => (x16_14 : Sl).v) rfl rfl hR (M.unbind H) (fun Q H => ap_run hE rfl rfl ap22 H) (fun x16_14 a w ea hR H => ?_)
    have hE := Env.put_some hE rfl ea; clear ea
    refine t_val (v := (x16_14 : Sl).v) rfl rfl hE rfl (r_assign hE rfl) (fun a hE => ?_)
    refine t_nil ?_
    refine hK_11 _ _ ?_
    refine t_region ?_
    refine t_val (v := .int .i64 x4_6) rfl rfl hE rfl (r_move hE rfl) (fun a hE => ?_)
    refine t_val (v := .int .i64 (IntKind.wrap .i64 (x4_6 + 1))) rfl rfl hE rfl (r_bin hE rfl rfl g_int b_add) (fun a hE => ?_)
    refine t_val (v := .int .i64 (IntKind.wrap .i64 (x4_6 + 1))) rfl rfl hE rfl (r_assign hE rfl) (fun a hE => ?_)
    refine t_nil ?_
    exact hY_8 (x16_14, IntKind.wrap .i64 (x4_6 + 1)) _ _ (hE.cut (.cons rfl (.cons rfl (.cons rfl Subs.nil)))) hR H
  · replace H := M.ite_f hb H
    refine w_exit ?_
    refine Xu.same ?_
    refine hK_3 _ _ ?_
    refine w_seq (fun K hK_15 => ?_)
    refine t_region ?_
    refine t_val (v := (x3_5 : Sl).v) rfl rfl hE rfl (r_move hE rfl) (fun a hE => ?_)
    refine t_val (v := (x3_5 : Sl).v) rfl rfl hE rfl (r_assign hE rfl) (fun a hE => ?_)
    refine t_nil ?_
    refine hK_15 _ _ ?_
    refine w_ret ?_
    exact hret _ _ _ x3_5 _ hE hR (res_run hE rfl (RV.tmp rfl RV.nil)) rfl H

/-- ramble/ramblelaw05.SectorCuts -/
def ramblelaw05_SectorCuts (x0 : Sl) (x1 : Sl) : M (Bool) := do
  let x8_3 ← sector_Cut x0
  let x10_4 ← rambleref05_Cut x0
  let x11_6 ← ramblelaw05_begun
  let x16_7 ← M.ite x11_6 (do
    let x15_8 ← slices_EqualFunc_byte_byte_byte_byte x8_3 x10_4 (Value.func (.func fn_bytes_Equal) #[] #[])
    M.pure x15_8
    ) (do
    M.pure false
    )
  let x22_9 ← M.ite x16_7 (do
    let x19_10 ← sector_Join x8_3
    let x21_11 ← bytes_Equal x19_10 x0
    M.pure x21_11
    ) (do
    M.pure false
    )
  let x29_12 ← M.ite x22_9 (do
    let x25_13 ← sector_Join x1
    let x27_14 ← rambleref05_Join x1
    let x28_15 ← bytes_Equal x25_13 x27_14
    M.pure x28_15
    ) (do
    M.pure false
    )
  M.pure x29_12
theorem S_ramblelaw05_SectorCuts (x0 : Sl) (x1 : Sl) : Sound Go.Proofs.Try.prog 5 #[(x0 : Sl).v, (x1 : Sl).v] (fun (r : Bool) => .bool r) (ramblelaw05_SectorCuts x0 x1) := by
  refine sound_of [(0, (x0 : Sl).v), (1, (x1 : Sl).v)] Go.Proofs.Try.func5 rfl rfl (Nat.le_of_ble_eq_true rfl) (args_of ⟨rfl, rfl, trivial⟩) (fun w0 w Q R a hret hE hR H => ?_)
  unfold ramblelaw05_SectorCuts at H
  refine w_seq (fun K hK_1 => ?_)
  refine t_region ?_
  refine t_val (v := .bool false) rfl rfl hE rfl (r_assign hE rfl) (fun a hE => ?_)
  refine t_nil ?_
  refine hK_1 _ _ ?_
  refine w_seq (fun K hK_2 => ?_)
  refine t_region ?_
  refine t_val (v := (x0 : Sl).v) rfl rfl hE rfl (r_move hE rfl) (fun a hE => ?_)
  refine t_call hE hR cl_sector_Cut rfl (S_sector_Cut x0) (M.unbind H) (fun x8_3 a w ea hR H => ?_)
  have hE := Env.put_some hE rfl ea; clear ea
  refine t_val (v := (x0 : Sl).v) rfl rfl hE rfl (r_move hE rfl) (fun a hE => ?_)
  refine t_call hE hR cl_rambleref05_Cut rfl (S_rambleref05_Cut x0) (M.unbind H) (fun x10_4 a w ea hR H => ?_)
  have hE := Env.put_some hE rfl ea; clear ea
  refine t_val (v := (x8_3 : Sl).v) rfl rfl hE rfl (r_assign hE rfl) (fun a hE => ?_)
  refine t_val (v := (x10_4 : Sl).v) rfl rfl hE rfl (r_assign hE rfl) (fun a hE => ?_)
  refine t_nil ?_
  refine hK_2 _ _ ?_
  refine w_seq (fun K hK_5 => ?_)
  refine t_region ?_
  refine t_call hE hR cl_ramblelaw05_begun rfl (S_ramblelaw05_begun ) (M.unbind H) (fun x11_6 a w ea hR H => ?_)
  have hE := Env.put_some hE rfl ea; clear ea
  refine t_val (v := .bool x11_6) rfl rfl hE rfl (r_move hE rfl) (fun a hE => ?_)
  refine t_grp (n := (⟨30, []⟩ : Frm)) (w0 := w0) 4 (fun x16_7 : Bool => [(0, (x0 : Sl).v), (1, (x1 : Sl).v), (4, .bool false), (5, (x8_3 : Sl).v), (16, .bool x16_7)]) (M.unbind H) (fun Kr hKr H => ?_) ?_
  · rcases bool_em x11_6 with hb | hb
    · replace H := M.ite_t hb H
      have hE := hE.reb 12 x11_6 true hb rfl
      refine t_on rfl hE rfl rfl rfl ?_
      refine t_val (v := (x8_3 : Sl).v) rfl rfl hE rfl (r_move hE rfl) (fun a hE => ?_)
      refine t_on rfl hE rfl rfl rfl ?_
      refine t_val (v := (x10_4 : Sl).v) rfl rfl hE rfl (r_move hE rfl) (fun a hE => ?_)
      refine t_on rfl hE rfl rfl rfl ?_
      refine t_call hE hR cl_slices_EqualFunc_byte_byte_byte_byte rfl (S_slices_EqualFunc_byte_byte_byte_byte x8_3 x10_4 (Value.func (.func fn_bytes_Equal) #[] #[])) (M.unbind H) (fun x15_8 a w ea hR H => ?_)
      have hE := Env.put_some hE rfl ea; clear ea
      refine t_val rfl rfl hE rfl (r_pick_t hE rfl rfl) (fun a hE => ?_)
      refine t_nil ?_
      exact hKr _ _ _ (hE.cut (.cons rfl (.cons rfl (.cons rfl (.cons rfl (.cons rfl Subs.nil)))))) hR H
    · replace H := M.ite_f hb H
      have hE := hE.reb 12 x11_6 false hb rfl
      refine t_off rfl hE rfl rfl rfl (fun a ea => ?_)
      have hE := Env.put_some hE rfl ea; clear ea
      refine t_off rfl hE rfl rfl rfl (fun a ea => ?_)
      have hE := Env.put_some hE rfl ea; clear ea
      refine t_off rfl hE rfl rfl rfl (fun a ea => ?_)
      have hE := Env.put_some hE rfl ea; clear ea
      refine t_val rfl rfl hE rfl (r_pick_f hE rfl rfl) (fun a hE => ?_)
      refine t_nil ?_
      exact hKr _ _ _ (hE.cut (.cons rfl (.cons rfl (.cons rfl (.cons rfl (.cons rfl Subs.nil)))))) hR H
  · intro x16_7 a w hE hR H
    refine t_val (v := .bool x16_7) rfl rfl hE rfl (r_move hE rfl) (fun a hE => ?_)
    refine t_grp (n := (⟨30, []⟩ : Frm)) (w0 := w0) 5 (fun x22_9 : Bool => [(1, (x1 : Sl).v), (4, .bool false), (22, .bool x22_9)]) (M.unbind H) (fun Kr hKr H => ?_) ?_
    · rcases bool_em x16_7 with hb | hb
      · replace H := M.ite_t hb H
        have hE := hE.reb 17 x16_7 true hb rfl
        refine t_on rfl hE rfl rfl rfl ?_
        refine t_val (v := (x8_3 : Sl).v) rfl rfl hE rfl (r_move hE rfl) (fun a hE => ?_)
        refine t_on rfl hE rfl rfl rfl ?_
        refine t_call hE hR cl_sector_Join rfl (S_sector_Join x8_3) (M.unbind H) (fun x19_10 a w ea hR H => ?_)
        have hE := Env.put_some hE rfl ea; clear ea
        refine t_on rfl hE rfl rfl rfl ?_
        refine t_val (v := (x0 : Sl).v) rfl rfl hE rfl (r_move hE rfl) (fun a hE => ?_)
        refine t_on rfl hE rfl rfl rfl ?_
        refine t_call hE hR cl_bytes_Equal rfl (S_bytes_Equal x19_10 x0) (M.unbind H) (fun x21_11 a w ea hR H => ?_)
        have hE := Env.put_some hE rfl ea; clear ea
        refine t_val rfl rfl hE rfl (r_pick_t hE rfl rfl) (fun a hE => ?_)
        refine t_nil ?_
        exact hKr _ _ _ (hE.cut (.cons rfl (.cons rfl (.cons rfl Subs.nil)))) hR H
      · replace H := M.ite_f hb H
        have hE := hE.reb 17 x16_7 false hb rfl
        refine t_off rfl hE rfl rfl rfl (fun a ea => ?_)
        have hE := Env.put_some hE rfl ea; clear ea
        refine t_off rfl hE rfl rfl rfl (fun a ea => ?_)
        have hE := Env.put_some hE rfl ea; clear ea
        refine t_off rfl hE rfl rfl rfl (fun a ea => ?_)
        have hE := Env.put_some hE rfl ea; clear ea
        refine t_off rfl hE rfl rfl rfl (fun a ea => ?_)
        have hE := Env.put_some hE rfl ea; clear ea
        refine t_val rfl rfl hE rfl (r_pick_f hE rfl rfl) (fun a hE => ?_)
        refine t_nil ?_
        exact hKr _ _ _ (hE.cut (.cons rfl (.cons rfl (.cons rfl Subs.nil)))) hR H
    · intro x22_9 a w hE hR H
      refine t_val (v := .bool x22_9) rfl rfl hE rfl (r_move hE rfl) (fun a hE => ?_)
      refine t_grp (n := (⟨30, []⟩ : Frm)) (w0 := w0) 6 (fun x29_12 : Bool => [(4, .bool false), (29, .bool x29_12)]) (M.unbind H) (fun Kr hKr H => ?_) ?_
      · rcases bool_em x22_9 with hb | hb
        · replace H := M.ite_t hb H
          have hE := hE.reb 23 x22_9 true hb rfl
          refine t_on rfl hE rfl rfl rfl ?_
          refine t_val (v := (x1 : Sl).v) rfl rfl hE rfl (r_move hE rfl) (fun a hE => ?_)
          refine t_on rfl hE rfl rfl rfl ?_
          refine t_call hE hR cl_sector_Join rfl (S_sector_Join x1) (M.unbind H) (fun x25_13 a w ea hR H => ?_)
          have hE := Env.put_some hE rfl ea; clear ea
          refine t_on rfl hE rfl rfl rfl ?_
          refine t_val (v := (x1 : Sl).v) rfl rfl hE rfl (r_move hE rfl) (fun a hE => ?_)
          refine t_on rfl hE rfl rfl rfl ?_
          refine t_call hE hR cl_rambleref05_Join rfl (S_rambleref05_Join x1) (M.unbind H) (fun x27_14 a w ea hR H => ?_)
          have hE := Env.put_some hE rfl ea; clear ea
          refine t_on rfl hE rfl rfl rfl ?_
          refine t_call hE hR cl_bytes_Equal rfl (S_bytes_Equal x25_13 x27_14) (M.unbind H) (fun x28_15 a w ea hR H => ?_)
          have hE := Env.put_some hE rfl ea; clear ea
          refine t_val rfl rfl hE rfl (r_pick_t hE rfl rfl) (fun a hE => ?_)
          refine t_nil ?_
          exact hKr _ _ _ (hE.cut (.cons rfl (.cons rfl Subs.nil))) hR H
        · replace H := M.ite_f hb H
          have hE := hE.reb 23 x22_9 false hb rfl
          refine t_off rfl hE rfl rfl rfl (fun a ea => ?_)
          have hE := Env.put_some hE rfl ea; clear ea
          refine t_off rfl hE rfl rfl rfl (fun a ea => ?_)
          have hE := Env.put_some hE rfl ea; clear ea
          refine t_off rfl hE rfl rfl rfl (fun a ea => ?_)
          have hE := Env.put_some hE rfl ea; clear ea
          refine t_off rfl hE rfl rfl rfl (fun a ea => ?_)
          have hE := Env.put_some hE rfl ea; clear ea
          refine t_off rfl hE rfl rfl rfl (fun a ea => ?_)
          have hE := Env.put_some hE rfl ea; clear ea
          refine t_val rfl rfl hE rfl (r_pick_f hE rfl rfl) (fun a hE => ?_)
          refine t_nil ?_
          exact hKr _ _ _ (hE.cut (.cons rfl (.cons rfl Subs.nil))) hR H
      · intro x29_12 a w hE hR H
        refine t_val (v := .bool x29_12) rfl rfl hE rfl (r_assign hE rfl) (fun a hE => ?_)
        refine t_nil ?_
        refine hK_5 _ _ ?_
        refine w_ret ?_
        exact hret _ _ _ x29_12 _ hE hR (res_run hE rfl (RV.tmp rfl RV.nil)) rfl H

/-- ramble/rambleref05.Sum -/
def rambleref05_Sum_j1 (self2 : (Int × Int × Int) → M (Int)) (c5_30 : Int) (c6_31 : Int) (x3_27 : Int) : M (Int) := do
  self2 (x3_27, IntKind.wrap .u8 (Int.tdiv c5_30 2), IntKind.wrap .i64 (c6_31 + 1))
def rambleref05_Sum_l2 (self1 : (Int × Int) → M (Int)) (c4_20 : Int) (self2 : (Int × Int × Int) → M (Int)) : (Int × Int × Int) → M (Int) := fun s => match s with
  | (x3_16, x5_17, x6_18) => do
    M.ite (decide (x6_18 < 8)) (do
      M.ite ((IntKind.wrap .u32 (Int.tmod x5_17 2)) != (Int.tmod x3_16 2)) (do
        rambleref05_Sum_j1 self2 x5_17 x6_18 (iXor .u32 (IntKind.wrap .u32 (Int.tdiv x3_16 2)) 3988292384)
        ) (do
        rambleref05_Sum_j1 self2 x5_17 x6_18 (IntKind.wrap .u32 (Int.tdiv x3_16 2))
        )
      ) (do
      self1 (x3_16, IntKind.wrap .i64 (c4_20 + 1))
      )
def rambleref05_Sum_l1 (c0_7 : Sl) (self1 : (Int × Int) → M (Int)) : (Int × Int) → M (Int) := fun s => match s with
  | (x3_5, x4_6) => do
    M.ite (decide (x4_6 < (c0_7.len : Int))) (do
      let x16_13 ← ixL c0_7 x4_6 1
      let x17_14 ← ldI .u8 x16_13
      M.loop (rambleref05_Sum_l2 self1 x4_6) (x3_5, x17_14, 0)
      ) (do
      M.pure (iNot .u32 x3_5)
      )
def rambleref05_Sum (x0 : Sl) : M (Int) := do
  M.loop (rambleref05_Sum_l1 x0) (4294967295, 0)
theorem S_rambleref05_Sum (x0 : Sl) : Sound Go.Proofs.Try.prog 15 #[(x0 : Sl).v] (fun (r : Int) => .int .u32 r) (rambleref05_Sum x0) := by
  refine sound_of [(0, (x0 : Sl).v)] Go.Proofs.Try.func15 rfl rfl (Nat.le_of_ble_eq_true rfl) (args_of ⟨rfl, trivial⟩) (fun w0 w Q R a hret hE hR H => ?_)
  unfold rambleref05_Sum at H
  refine w_seq (fun K hK_1 => ?_)
  refine t_region ?_
  refine t_val (v := .int .u32 0) rfl rfl hE rfl (r_assign hE rfl) (fun a hE => ?_)
  refine t_nil ?_
  refine hK_1 _ _ ?_
  refine w_seq (fun K hK_2 => ?_)
  refine t_region ?_
  refine t_val (v := .int .u32 4294967295) rfl rfl hE rfl (r_assign hE rfl) (fun a hE => ?_)
  refine t_nil ?_
  refine hK_2 _ _ ?_
  refine w_seq (fun K hK_3 => ?_)
  refine w_seq (fun K hK_4 => ?_)
  refine t_region ?_
  refine t_val (v := .int .i64 0) rfl rfl hE rfl (r_assign hE rfl) (fun a hE => ?_)
  refine t_nil ?_
  refine hK_4 _ _ ?_
  refine w_block ?_
  refine l_loop (fun (s : Int × Int) => (⟨37, []⟩ : Frm)) (fun (s : Int × Int) => [(0, (x0 : Sl).v), (3, .int .u32 s.1), (4, .int .i64 s.2)]) H (hE.cut (.cons rfl (.cons rfl (.cons rfl Subs.nil)))) hR (fun Y self1 hY_8 s a w hE hR H => ?_)
  rcases s with ⟨x3_5, x4_6⟩
  replace hE : Env (⟨37, []⟩ : Frm) a [(0, (x0 : Sl).v), (3, .int .u32 x3_5), (4, .int .i64 x4_6)] := hE
  replace H : (rambleref05_Sum_l1 x0 self1 (x3_5, x4_6)).wp w.heap Q := H
  unfold rambleref05_Sum_l1 at H
  refine w_seq (fun K hK_9 => ?_)
  refine w_seq (fun K hK_10 => ?_)
  refine t_region ?_
  refine t_val (v := .int .i64 x4_6) rfl rfl hE rfl (r_move hE rfl) (fun a hE => ?_)
  refine t_val (v := (x0 : Sl).v) rfl rfl hE rfl (r_move hE rfl) (fun a hE => ?_)
  refine t_val (v := .int .i64 (x0.len : Int)) rfl rfl hE rfl (r_len hE rfl 5 un22) (fun a hE => ?_)
  refine t_val (v := .bool (decide (x4_6 < (x0.len : Int)))) rfl rfl hE rfl (r_bin hE rfl rfl g_int b_lss) (fun a hE => ?_)
  refine t_nil ?_
  refine hK_10 _ _ ?_
  refine w_cond (decide (x4_6 < (x0.len : Int))) hE rfl (fun hb => ?_) (fun hb => ?_)
  · replace H := M.ite_t hb H
    refine w_skip ?_
    refine hK_9 _ _ ?_
    refine w_seq (fun K hK_11 => ?_)
    refine w_block ?_
    refine w_seq (fun K hK_12 => ?_)
    refine t_region ?_
    refine t_val (v := (x0 : Sl).v) rfl rfl hE rfl (r_move hE rfl) (fun a hE => ?_)
    refine t_val (v := .int .i64 x4_6) rfl rfl hE rfl (r_move hE rfl) (fun a hE => ?_)
    obtain ⟨x16_13, qx16_13, H⟩ := H
    refine t_val (v := .pointer (some x16_13)) rfl rfl hE rfl (r_indexAddrL hE rfl rfl un22 sz5 qx16_13) (fun a hE => ?_)
    obtain ⟨x17_14, qx17_14, H⟩ := H
    refine t_val (v := .int .u8 x17_14) rfl rfl hE rfl (r_load hE rfl sc5 qx17_14) (fun a hE => ?_)
    refine t_val (v := .int .u8 x17_14) rfl rfl hE rfl (r_assign hE rfl) (fun a hE => ?_)
    refine t_nil ?_
    refine hK_12 _ _ ?_
    refine w_seq (fun K hK_15 => ?_)
    refine t_region ?_
    refine t_val (v := .int .i64 0) rfl rfl hE rfl (r_assign hE rfl) (fun a hE => ?_)
    refine t_nil ?_
    refine hK_15 _ _ ?_
    refine w_block ?_
    refine l_loop (fun (s : Int × Int × Int) => (⟨37, []⟩ : Frm)) (fun (s : Int × Int × Int) => [(0, (x0 : Sl).v), (3, .int .u32 s.1), (4, .int .i64 x4_6), (5, .int .u8 s.2.1), (6, .int .i64 s.2.2)]) H (hE.cut (.cons rfl (.cons rfl (.cons rfl (.cons rfl (.cons rfl Subs.nil)))))) hR (fun Y self2 hY_21 s a w hE hR H => ?_)
    rcases s with ⟨x3_16, x5_17, x6_18⟩
    replace hE : Env (⟨37, []⟩ : Frm) a [(0, (x0 : Sl).v), (3, .int .u32 x3_16), (4, .int .i64 x4_6), (5, .int .u8 x5_17), (6, .int .i64 x6_18)] := hE
    replace H : (rambleref05_Sum_l2 self1 x4_6 self2 (x3_16, x5_17, x6_18)).wp w.heap Q := H
    unfold rambleref05_Sum_l2 at H
    refine w_seq (fun K hK_22 => ?_)
    refine w_seq (fun K hK_23 => ?_)
    refine t_region ?_
    refine t_val (v := .int .i64 x6_18) rfl rfl hE rfl (r_move hE rfl) (fun a hE => ?_)
    refine t_val (v := .bool (decide (x6_18 < 8))) rfl rfl hE rfl (r_bin hE rfl rfl g_int b_lss) (fun a hE => ?_)
    refine t_nil ?_
    refine hK_23 _ _ ?_
    refine w_cond (decide (x6_18 < 8)) hE rfl (fun hb => ?_) (fun hb => ?_)
    · replace H := M.ite_t hb H
      refine w_skip ?_
      refine hK_22 _ _ ?_
      refine w_seq (fun K hK_24 => ?_)
      refine w_block ?_
      refine w_seq (fun K hK_25 => ?_)
      refine t_region ?_
      refine t_val (v := .int .u8 x5_17) rfl rfl hE rfl (r_move hE rfl) (fun a hE => ?_)
      refine t_val (v := .int .u8 (Int.tmod x5_17 2)) rfl rfl hE rfl (r_bin hE rfl rfl g_int (b_rem ⟨by decide, rfl⟩)) (fun a hE => ?_)
      refine t_val (v := .int .u32 (IntKind.wrap .u32 (Int.tmod x5_17 2))) rfl rfl hE rfl (r_convI hE rfl un5 un34) (fun a hE => ?_)
      refine t_val (v := .int .u32 x3_16) rfl rfl hE rfl (r_move hE rfl) (fun a hE => ?_)
      refine t_val (v := .int .u32 (Int.tmod x3_16 2)) rfl rfl hE rfl (r_bin hE rfl rfl g_int (b_rem ⟨by decide, rfl⟩)) (fun a hE => ?_)
      refine t_val (v := .bool ((IntKind.wrap .u32 (Int.tmod x5_17 2)) != (Int.tmod x3_16 2))) rfl rfl hE rfl (r_bin hE rfl rfl g_int b_neq) (fun a hE => ?_)
      refine t_val (v := .bool ((IntKind.wrap .u32 (Int.tmod x5_17 2)) != (Int.tmod x3_16 2))) rfl rfl hE rfl (r_assign hE rfl) (fun a hE => ?_)
      refine t_nil ?_
      refine hK_25 _ _ ?_
      refine w_seq (fun K hK_26 => ?_)
      refine t_region ?_
      refine t_val (v := .int .u32 x3_16) rfl rfl hE rfl (r_move hE rfl) (fun a hE => ?_)
      refine t_val (v := .int .u32 (IntKind.wrap .u32 (Int.tdiv x3_16 2))) rfl rfl hE rfl (r_bin hE rfl rfl g_int (b_quo ⟨by decide, rfl⟩)) (fun a hE => ?_)
      refine t_val (v := .int .u32 (IntKind.wrap .u32 (Int.tdiv x3_16 2))) rfl rfl hE rfl (r_assign hE rfl) (fun a hE => ?_)
      refine t_nil ?_
      refine hK_26 _ _ ?_
      refine w_seq_join (fun a w => ∃ (x3_27 : Int), Env (⟨37, []⟩ : Frm) a [(0, (x0 : Sl).v), (4, .int .i64 x4_6), (5, .int .u8 x5_17), (6, .int .i64 x6_18), (3, .int .u32 x3_27)] ∧ Rest w0 w ∧ (rambleref05_Sum_j1 self2 x5_17 x6_18 x3_27).wp w.heap Q) ?_ ?_
      · rintro a w ⟨x3_27, hE, hR, H⟩
        unfold rambleref05_Sum_j1 at H
        refine t_region ?_
        refine t_val (v := .int .u8 x5_17) rfl rfl hE rfl (r_move hE rfl) (fun a hE => ?_)
        refine t_val (v := .int .u8 (IntKind.wrap .u8 (Int.tdiv x5_17 2))) rfl rfl hE rfl (r_bin hE rfl rfl g_int (b_quo ⟨by decide, rfl⟩)) (fun a hE => ?_)
        refine t_val (v := .int .u8 (IntKind.wrap .u8 (Int.tdiv x5_17 2))) rfl rfl hE rfl (r_assign hE rfl) (fun a hE => ?_)
        refine t_nil ?_
        refine hK_24 _ _ ?_
        refine t_region ?_
        refine t_val (v := .int .i64 x6_18) rfl rfl hE rfl (r_move hE rfl) (fun a hE => ?_)
        refine t_val (v := .int .i64 (IntKind.wrap .i64 (x6_18 + 1))) rfl rfl hE rfl (r_bin hE rfl rfl g_int b_add) (fun a hE => ?_)
        refine t_val (v := .int .i64 (IntKind.wrap .i64 (x6_18 + 1))) rfl rfl hE rfl (r_assign hE rfl) (fun a hE => ?_)
        refine t_nil ?_
        exact hY_21 (x3_27, IntKind.wrap .u8 (Int.tdiv x5_17 2), IntKind.wrap .i64 (x6_18 + 1)) _ _ (hE.cut (.cons rfl (.cons rfl (.cons rfl (.cons rfl (.cons rfl Subs.nil)))))) hR H
      · skip
        refine w_seq (fun K hK_32 => ?_)
        refine t_region ?_
        refine t_val (v := .bool ((IntKind.wrap .u32 (Int.tmod x5_17 2)) != (Int.tmod x3_16 2))) rfl rfl hE rfl (r_move hE rfl) (fun a hE => ?_)
        refine t_nil ?_
        refine hK_32 _ _ ?_
        refine w_cond ((IntKind.wrap .u32 (Int.tmod x5_17 2)) != (Int.tmod x3_16 2)) hE rfl (fun hb => ?_) (fun hb => ?_)
        · replace H := M.ite_t hb H
          refine t_region ?_
          refine t_val (v := .int .u32 (IntKind.wrap .u32 (Int.tdiv x3_16 2))) rfl rfl hE rfl (r_move hE rfl) (fun a hE => ?_)
          refine t_val (v := .int .u32 (iXor .u32 (IntKind.wrap .u32 (Int.tdiv x3_16 2)) 3988292384)) rfl rfl hE rfl (r_bin hE rfl rfl g_int b_xor) (fun a hE => ?_)
          refine t_val (v := .int .u32 (iXor .u32 (IntKind.wrap .u32 (Int.tdiv x3_16 2)) 3988292384)) rfl rfl hE rfl (r_assign hE rfl) (fun a hE => ?_)
          refine t_nil ?_
          exact ⟨iXor .u32 (IntKind.wrap .u32 (Int.tdiv x3_16 2)) 3988292384, hE.cut (.cons rfl (.cons rfl (.cons rfl (.cons rfl (.cons rfl Subs.nil))))), hR, H⟩
        · replace H := M.ite_f hb H
          refine w_skip ?_
          exact ⟨IntKind.wrap .u32 (Int.tdiv x3_16 2), hE.cut (.cons rfl (.cons rfl (.cons rfl (.cons rfl (.cons rfl Subs.nil))))), hR, H⟩
    · replace H := M.ite_f hb H
      refine w_exit ?_
      refine Xu.same ?_
      refine hK_11 _ _ ?_
      refine t_region ?_
      refine t_val (v := .int .i64 x4_6) rfl rfl hE rfl (r_move hE rfl) (fun a hE => ?_)
      refine t_val (v := .int .i64 (IntKind.wrap .i64 (x4_6 + 1))) rfl rfl hE rfl (r_bin hE rfl rfl g_int b_add) (fun a hE => ?_)
      refine t_val (v := .int .i64 (IntKind.wrap .i64 (x4_6 + 1))) rfl rfl hE rfl (r_assign hE rfl) (fun a hE => ?_)
      refine t_nil ?_
      exact hY_8 (x3_16, IntKind.wrap .i64 (x4_6 + 1)) _ _ (hE.cut (.cons rfl (.cons rfl (.cons rfl Subs.nil)))) hR H
  · replace H := M.ite_f hb H
    refine w_exit ?_
    refine Xu.same ?_
    refine hK_3 _ _ ?_
    refine w_seq (fun K hK_33 => ?_)
    refine t_region ?_
    refine t_val (v := .int .u32 x3_5) rfl rfl hE rfl (r_move hE rfl) (fun a hE => ?_)
    refine t_val (v := .int .u32 (iNot .u32 x3_5)) rfl rfl hE rfl (r_un hE rfl u_xor) (fun a hE => ?_)
    refine t_val (v := .int .u32 (iNot .u32 x3_5)) rfl rfl hE rfl (r_assign hE rfl) (fun a hE => ?_)
    refine t_nil ?_
    refine hK_33 _ _ ?_
    refine w_ret ?_
    exact hret _ _ _ (iNot .u32 x3_5) _ hE hR (res_run hE rfl (RV.tmp rfl RV.nil)) rfl H

end Gx
