/- Printed by program: Go functions as Lean programs, each tied to its code. No condition. -/
import Derived.Test.YtlmfpnogpolhhaaP0
import Derived.Test.YtlmfpnogpolhhaaP1
import Derived.Test.YtlmfpnogpolhhaaP2
import Derived.Test.YtlmfpnogpolhhaaP3
set_option linter.unusedVariables false
set_option linter.unusedSimpArgs false
namespace Gx
open Go
set_option linter.unusedVariables false
set_option maxRecDepth 100000
/-- ramble/wal.heads -/
def wal_heads_j1 (self1 : (Int) → M (Array Value)) (c10_17 : Int) : M (Array Value) := do
  self1 (IntKind.wrap .i64 (c10_17 + 1))
theorem tb47_11 : tabAt Go.Proofs.Try.f47 11 [[], [], [], [2], [], [4], [], [5, 6], [], [8], [1, 3, 7, 9], [0, 0, 1, 2, 3, 4, 5, 6, 7, 8, 9, 10], [11, 10, 0, 1, 2, 3, 4, 5, 6, 7, 8, 9, 10]] [[], [], [], [2], [], [4], [], [5, 6], [], [8], [1, 3, 7, 9], [0], [10, 11]] [[], [], [], [2], [], [4], [], [4, 5, 6], [], [8], [1, 2, 3, 4, 5, 6, 7, 8, 9], [0, 1, 2, 3, 4, 5, 6, 7, 8, 9, 10], [0, 1, 2, 3, 4, 5, 6, 7, 8, 9, 10, 11]] = true := by kernel_rfl
def wal_heads_l1 (c0_8 : Option Addr) (c2_9 : Addr) (c3_10 : Addr) (self1 : (Int) → M (Array Value)) : (Int) → M (Array Value) := fun s => match s with
  | x10_7 => do
    M.ite (decide (x10_7 < 2)) (do
      let x16_20 ← disk_Disk_Read c0_8 x10_7
      let x5_21 ← mkB ty_api_Sector (Array.replicate 128 (.int .u8 0) : Array Value)
      M.need (x16_20.1.size = 128)
      stG x5_21 x16_20.1
      M.ite (x16_20.2 != 0) (do
        wal_heads_j1 self1 x10_7
        ) (do
        let x22_26 ← ldG 128 x5_21
        let x23_27 ← sector_Open x22_26
        let x7_28 ← mkB ty_api_Frame (#[.int .i64 0, .int .i64 0, .slice none 0 0] : Array Value)
        M.need (x23_27.1.size = 3)
        stG x7_28 x23_27.1
        let x32_32 ← M.ite (x23_27.2 != 0) (do
          M.pure true
          ) (do
          let x30_33 ← ldI .i64 ((x7_28).add 0)
          M.pure (x30_33 != 1)
          )
        let x37_34 ← M.ite x32_32 (do
          M.pure true
          ) (do
          let x35_35 ← ldI .i64 ((x7_28).add 1)
          M.pure (decide (x35_35 < 1))
          )
        let x42_36 ← M.ite x37_34 (do
          M.pure true
          ) (do
          let x40_37 ← ldI .i64 ((x7_28).add 1)
          M.pure (decide (x40_37 > 1099511627776))
          )
        let x49_38 ← M.ite x42_36 (do
          M.pure true
          ) (do
          let x45_39 ← ldI .i64 ((x7_28).add 1)
          M.pure ((iAnd .i64 x45_39 1) != x10_7)
          )
        M.ite x49_38 (do
          wal_heads_j1 self1 x10_7
          ) (do
          let x52_41 ← ldL ((x7_28).add 2)
          let x53_42 ← num_Take x52_41
          let x62_45 ← M.ite (x53_42.2.2 != 0) (do
            M.pure true
            ) (do
            M.pure (decide (x53_42.1 < 1))
            )
          let x66_46 ← M.ite x62_45 (do
            M.pure true
            ) (do
            M.pure (decide (x53_42.1 > 4096))
            )
          let x74_47 ← M.ite x66_46 (do
            M.pure true
            ) (do
            let x72_48 ← disk_Disk_Sectors c0_8
            M.pure (decide ((IntKind.wrap .i64 (2 + (IntKind.wrap .i64 x53_42.1))) > x72_48))
            )
          M.ite x74_47 (do
            wal_heads_j1 self1 x10_7
            ) (do
            let x80_49 ← ldL ((x7_28).add 2)
            let x82_50 ← slL x80_49 x53_42.2.1 x80_49.len 1
            let x84_51 ← ldI .i64 ((x7_28).add 1)
            let x86_52 ← ixA c3_10 2 x10_7 7
            M.need ((#[.pointer c0_8, .int .i64 (IntKind.wrap .i64 x53_42.1), (x82_50 : Sl).v, .int .i64 x84_51, .int .i64 0, .bool true, .bool false] : Array Value).size = 7)
            stG x86_52 (#[.pointer c0_8, .int .i64 (IntKind.wrap .i64 x53_42.1), (x82_50 : Sl).v, .int .i64 x84_51, .int .i64 0, .bool true, .bool false] : Array Value)
            wal_heads_j1 self1 x10_7
            )
          )
        )
      ) (do
      let x88_55 ← ldG 14 c3_10
      M.need (x88_55.size = 14)
      stG c2_9 x88_55
      let r2_57 ← ldG 14 c2_9
      M.pure r2_57
      )
def wal_heads (x0 : Option Addr) : M (Array Value) := do
  let x2_2 ← mkB ty_2_wal_Log (#[.pointer none, .int .i64 0, .slice none 0 0, .int .i64 0, .int .i64 0, .bool false, .bool false, .pointer none, .int .i64 0, .slice none 0 0, .int .i64 0, .int .i64 0, .bool false, .bool false] : Array Value)
  let x3_4 ← mkB ty_2_wal_Log (#[.pointer none, .int .i64 0, .slice none 0 0, .int .i64 0, .int .i64 0, .bool false, .bool false, .pointer none, .int .i64 0, .slice none 0 0, .int .i64 0, .int .i64 0, .bool false, .bool false] : Array Value)
  M.loop (wal_heads_l1 x0 x2_2 x3_4) 0
theorem S_wal_heads (x0 : Option Addr) : Sound Go.Proofs.Try.prog 47 #[.pointer x0] (fun (r : Array Value) => .agg r) (wal_heads x0) := by
  refine sound_of [(0, .pointer x0)] Go.Proofs.Try.func47 rfl rfl (Nat.le_of_ble_eq_true rfl) (args_of ⟨rfl, trivial⟩) (fun w0 w Q R a hret hE hR H => ?_)
  unfold wal_heads at H
  refine w_seq (fun K hK_1 => ?_)
  refine t_region ?_
  obtain ⟨x2_2, qx2_2, H⟩ := H
  refine t_valh (v := .pointer (some x2_2)) rfl rfl hE rfl hR (r_alloc zr89 qx2_2) (fun a w hE hR hh => ?_)
  replace H := M.at hh H; clear hh
  refine t_nil ?_
  refine hK_1 _ _ ?_
  refine w_seq (fun K hK_3 => ?_)
  refine t_region ?_
  obtain ⟨x3_4, qx3_4, H⟩ := H
  refine t_valh (v := .pointer (some x3_4)) rfl rfl hE rfl hR (r_alloc zr89 qx3_4) (fun a w hE hR hh => ?_)
  replace H := M.at hh H; clear hh
  refine t_nil ?_
  refine hK_3 _ _ ?_
  refine w_seq (fun K hK_5 => ?_)
  refine w_seq (fun K hK_6 => ?_)
  refine t_region ?_
  refine t_val (v := .int .i64 0) rfl rfl hE rfl (r_move hE rfl) (fun a hE => ?_)
  refine t_nil ?_
  refine hK_6 _ _ ?_
  refine w_block ?_
  refine l_loop (fun (s : Int) => (⟨89, []⟩ : Frm)) (fun (s : Int) => [(0, .pointer x0), (2, .pointer (some x2_2)), (3, .pointer (some x3_4)), (10, .int .i64 s)]) H (hE.cut (.cons rfl (.cons rfl (.cons rfl (.cons rfl Subs.nil))))) hR (fun Y self1 hY_11 x10_7 a w hE hR H => ?_)
  replace hE : Env (⟨89, []⟩ : Frm) a [(0, .pointer x0), (2, .pointer (some x2_2)), (3, .pointer (some x3_4)), (10, .int .i64 x10_7)] := hE
  replace H : (wal_heads_l1 x0 x2_2 x3_4 self1 x10_7).wp w.heap Q := H
  unfold wal_heads_l1 at H
  refine w_seq (fun K hK_12 => ?_)
  refine t_region ?_
  refine t_val (v := .bool (decide (x10_7 < 2))) rfl rfl hE rfl (r_bin hE rfl rfl g_int b_lss) (fun a hE => ?_)
  refine t_nil ?_
  refine hK_12 _ _ ?_
  refine w_seq (fun K hK_13 => ?_)
  refine w_cond (decide (x10_7 < 2)) hE rfl (fun hb => ?_) (fun hb => ?_)
  · replace H := M.ite_t hb H
    refine w_skip ?_
    refine hK_13 _ _ ?_
    refine w_seq_join (fun a w => Env (⟨89, []⟩ : Frm) a [(0, .pointer x0), (2, .pointer (some x2_2)), (3, .pointer (some x3_4)), (10, .int .i64 x10_7)] ∧ Rest w0 w ∧ (wal_heads_j1 self1 x10_7).wp w.heap Q) ?_ ?_
    · rintro a w ⟨hE, hR, H⟩
      unfold wal_heads_j1 at H
      refine t_region ?_
      refine t_val (v := .int .i64 (IntKind.wrap .i64 (x10_7 + 1))) rfl rfl hE rfl (r_bin hE rfl rfl g_int b_add) (fun a hE => ?_)
      refine t_val (v := .int .i64 (IntKind.wrap .i64 (x10_7 + 1))) rfl rfl hE rfl (r_move hE rfl) (fun a hE => ?_)
      refine t_nil ?_
      exact hY_11 (IntKind.wrap .i64 (x10_7 + 1)) _ _ (hE.cut (.cons rfl (.cons rfl (.cons rfl (.cons rfl Subs.nil))))) hR H
    · skip
      refine w_block ?_
      refine w_seq (fun K hK_18 => ?_)
      refine t_region ?_
      refine t_val (v := .int .i64 x10_7) rfl rfl hE rfl (r_move hE rfl) (fun a hE => ?_)
      refine t_val (v := .int .i64 x10_7) rfl rfl hE rfl (r_assign hE rfl) (fun a hE => ?_)
      refine t_nil ?_
      refine hK_18 _ _ ?_
      refine w_seq (fun K hK_19 => ?_)
      refine t_region ?_
      refine t_val (v := .pointer x0) rfl rfl hE rfl (r_move hE rfl) (fun a hE => ?_)
      refine t_val (v := .int .i64 x10_7) rfl rfl hE rfl (r_move hE rfl) (fun a hE => ?_)
      refine t_call hE hR cl_disk_Disk_Read rfl (S_disk_Disk_Read x0 x10_7) (M.unbind H) (fun x16_20 a w ea hR H => ?_)
      have hE := Env.put_some hE rfl ea; clear ea
      refine t_val (v := .tuple #[.agg x16_20.1, .int .i64 x16_20.2]) rfl rfl hE rfl (r_move hE rfl) (fun a hE => ?_)
      refine t_val (v := .agg x16_20.1) rfl rfl hE rfl (r_extract hE rfl rfl) (fun a hE => ?_)
      refine t_val (v := .int .i64 x16_20.2) rfl rfl hE rfl (r_extract hE rfl rfl) (fun a hE => ?_)
      obtain ⟨x5_21, qx5_21, H⟩ := H
      refine t_valh (v := .pointer (some x5_21)) rfl rfl hE rfl hR (r_alloc zr47 qx5_21) (fun a w hE hR hh => ?_)
      replace H := M.at hh H; clear hh
      obtain ⟨qz, H⟩ := H
      obtain ⟨u_22, qu_22, H⟩ := H
      refine t_sth rfl rfl hE hR (r_storeG hE rfl rfl sz47 qz qu_22) (fun a w hE hR hh => ?_)
      replace H := M.at hh H; clear hh
      refine t_val (v := .int .i64 x16_20.2) rfl rfl hE rfl (r_assign hE rfl) (fun a hE => ?_)
      refine t_nil ?_
      refine hK_19 _ _ ?_
      refine w_seq (fun K hK_23 => ?_)
      refine w_seq (fun K hK_24 => ?_)
      refine t_region ?_
      refine t_val (v := .int .i64 x16_20.2) rfl rfl hE rfl (r_move hE rfl) (fun a hE => ?_)
      refine t_val (v := .bool (x16_20.2 != 0)) rfl rfl hE rfl (r_bin hE rfl rfl g_int b_neq) (fun a hE => ?_)
      refine t_nil ?_
      refine hK_24 _ _ ?_
      refine w_cond (x16_20.2 != 0) hE rfl (fun hb => ?_) (fun hb => ?_)
      · replace H := M.ite_t hb H
        refine w_exit ?_
        refine Xu.same ?_
        exact ⟨hE.cut (.cons rfl (.cons rfl (.cons rfl (.cons rfl Subs.nil)))), hR, H⟩
      · replace H := M.ite_f hb H
        refine w_skip ?_
        refine hK_23 _ _ ?_
        refine w_seq (fun K hK_25 => ?_)
        refine t_region ?_
        obtain ⟨x22_26, qx22_26, H⟩ := H
        refine t_val (v := .agg x22_26) rfl rfl hE rfl (r_loadG hE rfl ag47 qx22_26) (fun a hE => ?_)
        refine t_call hE hR cl_sector_Open rfl (S_sector_Open x22_26) (M.unbind H) (fun x23_27 a w ea hR H => ?_)
        have hE := Env.put_some hE rfl ea; clear ea
        refine t_val (v := .tuple #[.agg x23_27.1, .int .i64 x23_27.2]) rfl rfl hE rfl (r_move hE rfl) (fun a hE => ?_)
        refine t_val (v := .agg x23_27.1) rfl rfl hE rfl (r_extract hE rfl rfl) (fun a hE => ?_)
        refine t_val (v := .int .i64 x23_27.2) rfl rfl hE rfl (r_extract hE rfl rfl) (fun a hE => ?_)
        obtain ⟨x7_28, qx7_28, H⟩ := H
        refine t_valh (v := .pointer (some x7_28)) rfl rfl hE rfl hR (r_alloc zr86 qx7_28) (fun a w hE hR hh => ?_)
        replace H := M.at hh H; clear hh
        obtain ⟨qz, H⟩ := H
        obtain ⟨u_29, qu_29, H⟩ := H
        refine t_sth rfl rfl hE hR (r_storeG hE rfl rfl sz86 qz qu_29) (fun a w hE hR hh => ?_)
        replace H := M.at hh H; clear hh
        refine t_val (v := .int .i64 x23_27.2) rfl rfl hE rfl (r_assign hE rfl) (fun a hE => ?_)
        refine t_nil ?_
        refine hK_25 _ _ ?_
        refine w_seq (fun K hK_30 => ?_)
        refine w_seq (fun K hK_31 => ?_)
        refine t_region ?_
        refine t_val (v := .int .i64 x23_27.2) rfl rfl hE rfl (r_move hE rfl) (fun a hE => ?_)
        refine t_val (v := .bool (x23_27.2 != 0)) rfl rfl hE rfl (r_bin hE rfl rfl g_int b_neq) (fun a hE => ?_)
        refine t_val (v := .bool (x23_27.2 != 0)) rfl rfl hE rfl (r_move hE rfl) (fun a hE => ?_)
        refine t_grp (n := (⟨89, []⟩ : Frm)) (w0 := w0) 4 (fun x32_32 : Bool => [(0, .pointer x0), (2, .pointer (some x2_2)), (3, .pointer (some x3_4)), (10, .int .i64 x10_7), (4, .int .i64 x10_7), (7, .pointer (some x7_28)), (32, .bool x32_32)]) (M.unbind H) (fun Kr hKr H => ?_) ?_
        · rcases bool_em (x23_27.2 != 0) with hb | hb
          · replace H := M.ite_t hb H
            have hE := hE.reb 28 (x23_27.2 != 0) true hb rfl
            refine t_off rfl hE rfl rfl rfl (fun a ea => ?_)
            have hE := Env.put_some hE rfl ea; clear ea
            refine t_off rfl hE rfl rfl rfl (fun a ea => ?_)
            have hE := Env.put_some hE rfl ea; clear ea
            refine t_off rfl hE rfl rfl rfl (fun a ea => ?_)
            have hE := Env.put_some hE rfl ea; clear ea
            refine t_val rfl rfl hE rfl (r_pick_t hE rfl rfl) (fun a hE => ?_)
            refine t_nil ?_
            exact hKr _ _ _ (hE.cut (.cons rfl (.cons rfl (.cons rfl (.cons rfl (.cons rfl (.cons rfl (.cons rfl Subs.nil)))))))) hR H
          · replace H := M.ite_f hb H
            have hE := hE.reb 28 (x23_27.2 != 0) false hb rfl
            refine t_on rfl hE rfl rfl rfl ?_
            refine t_val (v := .pointer (some ((x7_28).add 0))) rfl rfl hE rfl (r_fieldAddr hE rfl fd86_0) (fun a hE => ?_)
            refine t_on rfl hE rfl rfl rfl ?_
            obtain ⟨x30_33, qx30_33, H⟩ := H
            refine t_val (v := .int .i64 x30_33) rfl rfl hE rfl (r_load hE rfl sc3 qx30_33) (fun a hE => ?_)
            refine t_on rfl hE rfl rfl rfl ?_
            refine t_val (v := .bool (x30_33 != 1)) rfl rfl hE rfl (r_bin hE rfl rfl g_int b_neq) (fun a hE => ?_)
            refine t_val rfl rfl hE rfl (r_pick_f hE rfl rfl) (fun a hE => ?_)
            refine t_nil ?_
            exact hKr _ _ _ (hE.cut (.cons rfl (.cons rfl (.cons rfl (.cons rfl (.cons rfl (.cons rfl (.cons rfl Subs.nil)))))))) hR H
        · intro x32_32 a w hE hR H
          refine t_val (v := .bool x32_32) rfl rfl hE rfl (r_move hE rfl) (fun a hE => ?_)
          refine t_grp (n := (⟨89, []⟩ : Frm)) (w0 := w0) 4 (fun x37_34 : Bool => [(0, .pointer x0), (2, .pointer (some x2_2)), (3, .pointer (some x3_4)), (10, .int .i64 x10_7), (4, .int .i64 x10_7), (7, .pointer (some x7_28)), (37, .bool x37_34)]) (M.unbind H) (fun Kr hKr H => ?_) ?_
          · rcases bool_em x32_32 with hb | hb
            · replace H := M.ite_t hb H
              have hE := hE.reb 33 x32_32 true hb rfl
              refine t_off rfl hE rfl rfl rfl (fun a ea => ?_)
              have hE := Env.put_some hE rfl ea; clear ea
              refine t_off rfl hE rfl rfl rfl (fun a ea => ?_)
              have hE := Env.put_some hE rfl ea; clear ea
              refine t_off rfl hE rfl rfl rfl (fun a ea => ?_)
              have hE := Env.put_some hE rfl ea; clear ea
              refine t_val rfl rfl hE rfl (r_pick_t hE rfl rfl) (fun a hE => ?_)
              refine t_nil ?_
              exact hKr _ _ _ (hE.cut (.cons rfl (.cons rfl (.cons rfl (.cons rfl (.cons rfl (.cons rfl (.cons rfl Subs.nil)))))))) hR H
            · replace H := M.ite_f hb H
              have hE := hE.reb 33 x32_32 false hb rfl
              refine t_on rfl hE rfl rfl rfl ?_
              refine t_val (v := .pointer (some ((x7_28).add 1))) rfl rfl hE rfl (r_fieldAddr hE rfl fd86_1) (fun a hE => ?_)
              refine t_on rfl hE rfl rfl rfl ?_
              obtain ⟨x35_35, qx35_35, H⟩ := H
              refine t_val (v := .int .i64 x35_35) rfl rfl hE rfl (r_load hE rfl sc2 qx35_35) (fun a hE => ?_)
              refine t_on rfl hE rfl rfl rfl ?_
              refine t_val (v := .bool (decide (x35_35 < 1))) rfl rfl hE rfl (r_bin hE rfl rfl g_int b_lss) (fun a hE => ?_)
              refine t_val rfl rfl hE rfl (r_pick_f hE rfl rfl) (fun a hE => ?_)
              refine t_nil ?_
              exact hKr _ _ _ (hE.cut (.cons rfl (.cons rfl (.cons rfl (.cons rfl (.cons rfl (.cons rfl (.cons rfl Subs.nil)))))))) hR H
          · intro x37_34 a w hE hR H
            refine t_val (v := .bool x37_34) rfl rfl hE rfl (r_move hE rfl) (fun a hE => ?_)
            refine t_grp (n := (⟨89, []⟩ : Frm)) (w0 := w0) 4 (fun x42_36 : Bool => [(0, .pointer x0), (2, .pointer (some x2_2)), (3, .pointer (some x3_4)), (10, .int .i64 x10_7), (4, .int .i64 x10_7), (7, .pointer (some x7_28)), (42, .bool x42_36)]) (M.unbind H) (fun Kr hKr H => ?_) ?_
            · rcases bool_em x37_34 with hb | hb
              · replace H := M.ite_t hb H
                have hE := hE.reb 38 x37_34 true hb rfl
                refine t_off rfl hE rfl rfl rfl (fun a ea => ?_)
                have hE := Env.put_some hE rfl ea; clear ea
                refine t_off rfl hE rfl rfl rfl (fun a ea => ?_)
                have hE := Env.put_some hE rfl ea; clear ea
                refine t_off rfl hE rfl rfl rfl (fun a ea => ?_)
                have hE := Env.put_some hE rfl ea; clear ea
                refine t_val rfl rfl hE rfl (r_pick_t hE rfl rfl) (fun a hE => ?_)
                refine t_nil ?_
                exact hKr _ _ _ (hE.cut (.cons rfl (.cons rfl (.cons rfl (.cons rfl (.cons rfl (.cons rfl (.cons rfl Subs.nil)))))))) hR H
              · replace H := M.ite_f hb H
                have hE := hE.reb 38 x37_34 false hb rfl
                refine t_on rfl hE rfl rfl rfl ?_
                refine t_val (v := .pointer (some ((x7_28).add 1))) rfl rfl hE rfl (r_fieldAddr hE rfl fd86_1) (fun a hE => ?_)
                refine t_on rfl hE rfl rfl rfl ?_
                obtain ⟨x40_37, qx40_37, H⟩ := H
                refine t_val (v := .int .i64 x40_37) rfl rfl hE rfl (r_load hE rfl sc2 qx40_37) (fun a hE => ?_)
                refine t_on rfl hE rfl rfl rfl ?_
                refine t_val (v := .bool (decide (x40_37 > 1099511627776))) rfl rfl hE rfl (r_bin hE rfl rfl g_int b_gtr) (fun a hE => ?_)
                refine t_val rfl rfl hE rfl (r_pick_f hE rfl rfl) (fun a hE => ?_)
                refine t_nil ?_
                exact hKr _ _ _ (hE.cut (.cons rfl (.cons rfl (.cons rfl (.cons rfl (.cons rfl (.cons rfl (.cons rfl Subs.nil)))))))) hR H
            · intro x42_36 a w hE hR H
              refine t_val (v := .bool x42_36) rfl rfl hE rfl (r_move hE rfl) (fun a hE => ?_)
              refine t_grp (n := (⟨89, []⟩ : Frm)) (w0 := w0) 6 (fun x49_38 : Bool => [(0, .pointer x0), (2, .pointer (some x2_2)), (3, .pointer (some x3_4)), (10, .int .i64 x10_7), (4, .int .i64 x10_7), (7, .pointer (some x7_28)), (49, .bool x49_38)]) (M.unbind H) (fun Kr hKr H => ?_) ?_
              · rcases bool_em x42_36 with hb | hb
                · replace H := M.ite_t hb H
                  have hE := hE.reb 43 x42_36 true hb rfl
                  refine t_off rfl hE rfl rfl rfl (fun a ea => ?_)
                  have hE := Env.put_some hE rfl ea; clear ea
                  refine t_off rfl hE rfl rfl rfl (fun a ea => ?_)
                  have hE := Env.put_some hE rfl ea; clear ea
                  refine t_off rfl hE rfl rfl rfl (fun a ea => ?_)
                  have hE := Env.put_some hE rfl ea; clear ea
                  refine t_off rfl hE rfl rfl rfl (fun a ea => ?_)
                  have hE := Env.put_some hE rfl ea; clear ea
                  refine t_off rfl hE rfl rfl rfl (fun a ea => ?_)
                  have hE := Env.put_some hE rfl ea; clear ea
                  refine t_val rfl rfl hE rfl (r_pick_t hE rfl rfl) (fun a hE => ?_)
                  refine t_nil ?_
                  exact hKr _ _ _ (hE.cut (.cons rfl (.cons rfl (.cons rfl (.cons rfl (.cons rfl (.cons rfl (.cons rfl Subs.nil)))))))) hR H
                · replace H := M.ite_f hb H
                  have hE := hE.reb 43 x42_36 false hb rfl
                  refine t_on rfl hE rfl rfl rfl ?_
                  refine t_val (v := .pointer (some ((x7_28).add 1))) rfl rfl hE rfl (r_fieldAddr hE rfl fd86_1) (fun a hE => ?_)
                  refine t_on rfl hE rfl rfl rfl ?_
                  obtain ⟨x45_39, qx45_39, H⟩ := H
                  refine t_val (v := .int .i64 x45_39) rfl rfl hE rfl (r_load hE rfl sc2 qx45_39) (fun a hE => ?_)
                  refine t_on rfl hE rfl rfl rfl ?_
                  refine t_val (v := .int .i64 (iAnd .i64 x45_39 1)) rfl rfl hE rfl (r_bin hE rfl rfl g_int b_and) (fun a hE => ?_)
                  refine t_on rfl hE rfl rfl rfl ?_
                  refine t_val (v := .int .i64 x10_7) rfl rfl hE rfl (r_move hE rfl) (fun a hE => ?_)
                  refine t_on rfl hE rfl rfl rfl ?_
                  refine t_val (v := .bool ((iAnd .i64 x45_39 1) != x10_7)) rfl rfl hE rfl (r_bin hE rfl rfl g_int b_neq) (fun a hE => ?_)
                  refine t_val rfl rfl hE rfl (r_pick_f hE rfl rfl) (fun a hE => ?_)
                  refine t_nil ?_
                  exact hKr _ _ _ (hE.cut (.cons rfl (.cons rfl (.cons rfl (.cons rfl (.cons rfl (.cons rfl (.cons rfl Subs.nil)))))))) hR H
              · intro x49_38 a w hE hR H
                refine t_nil ?_
                refine hK_31 _ _ ?_
                refine w_cond x49_38 hE rfl (fun hb => ?_) (fun hb => ?_)
                · replace H := M.ite_t hb H
                  refine w_exit ?_
                  refine Xu.same ?_
                  exact ⟨hE.cut (.cons rfl (.cons rfl (.cons rfl (.cons rfl Subs.nil)))), hR, H⟩
                · replace H := M.ite_f hb H
                  refine w_skip ?_
                  refine hK_30 _ _ ?_
                  refine w_seq (fun K hK_40 => ?_)
                  refine t_region ?_
                  refine t_val (v := .pointer (some ((x7_28).add 2))) rfl rfl hE rfl (r_fieldAddr hE rfl fd86_2) (fun a hE => ?_)
                  obtain ⟨x52_41, qx52_41, H⟩ := H
                  refine t_val (v := (x52_41 : Sl).v) rfl rfl hE rfl (r_load hE rfl sc30 qx52_41) (fun a hE => ?_)
                  refine t_call hE hR cl_num_Take rfl (S_num_Take x52_41) (M.unbind H) (fun x53_42 a w ea hR H => ?_)
                  have hE := Env.put_some hE rfl ea; clear ea
                  refine t_val (v := .tuple #[.int .u64 x53_42.1, .int .i64 x53_42.2.1, .int .i64 x53_42.2.2]) rfl rfl hE rfl (r_move hE rfl) (fun a hE => ?_)
                  refine t_val (v := .int .u64 x53_42.1) rfl rfl hE rfl (r_extract hE rfl rfl) (fun a hE => ?_)
                  refine t_val (v := .int .i64 x53_42.2.1) rfl rfl hE rfl (r_extract hE rfl rfl) (fun a hE => ?_)
                  refine t_val (v := .int .i64 x53_42.2.2) rfl rfl hE rfl (r_extract hE rfl rfl) (fun a hE => ?_)
                  refine t_val (v := .int .u64 x53_42.1) rfl rfl hE rfl (r_assign hE rfl) (fun a hE => ?_)
                  refine t_val (v := .int .i64 x53_42.2.1) rfl rfl hE rfl (r_assign hE rfl) (fun a hE => ?_)
                  refine t_val (v := .int .i64 x53_42.2.2) rfl rfl hE rfl (r_assign hE rfl) (fun a hE => ?_)
                  refine t_nil ?_
                  refine hK_40 _ _ ?_
                  refine w_seq (fun K hK_43 => ?_)
                  refine w_seq (fun K hK_44 => ?_)
                  refine t_region ?_
                  refine t_val (v := .int .i64 x53_42.2.2) rfl rfl hE rfl (r_move hE rfl) (fun a hE => ?_)
                  refine t_val (v := .bool (x53_42.2.2 != 0)) rfl rfl hE rfl (r_bin hE rfl rfl g_int b_neq) (fun a hE => ?_)
                  refine t_val (v := .bool (x53_42.2.2 != 0)) rfl rfl hE rfl (r_move hE rfl) (fun a hE => ?_)
                  refine t_grp (n := (⟨89, []⟩ : Frm)) (w0 := w0) 3 (fun x62_45 : Bool => [(0, .pointer x0), (2, .pointer (some x2_2)), (3, .pointer (some x3_4)), (10, .int .i64 x10_7), (4, .int .i64 x10_7), (7, .pointer (some x7_28)), (8, .int .u64 x53_42.1), (9, .int .i64 x53_42.2.1), (62, .bool x62_45)]) (M.unbind H) (fun Kr hKr H => ?_) ?_
                  · rcases bool_em (x53_42.2.2 != 0) with hb | hb
                    · replace H := M.ite_t hb H
                      have hE := hE.reb 59 (x53_42.2.2 != 0) true hb rfl
                      refine t_off rfl hE rfl rfl rfl (fun a ea => ?_)
                      have hE := Env.put_some hE rfl ea; clear ea
                      refine t_off rfl hE rfl rfl rfl (fun a ea => ?_)
                      have hE := Env.put_some hE rfl ea; clear ea
                      refine t_val rfl rfl hE rfl (r_pick_t hE rfl rfl) (fun a hE => ?_)
                      refine t_nil ?_
                      exact hKr _ _ _ (hE.cut (.cons rfl (.cons rfl (.cons rfl (.cons rfl (.cons rfl (.cons rfl (.cons rfl (.cons rfl (.cons rfl Subs.nil)))))))))) hR H
                    · replace H := M.ite_f hb H
                      have hE := hE.reb 59 (x53_42.2.2 != 0) false hb rfl
                      refine t_on rfl hE rfl rfl rfl ?_
                      refine t_val (v := .int .u64 x53_42.1) rfl rfl hE rfl (r_move hE rfl) (fun a hE => ?_)
                      refine t_on rfl hE rfl rfl rfl ?_
                      refine t_val (v := .bool (decide (x53_42.1 < 1))) rfl rfl hE rfl (r_bin hE rfl rfl g_int b_lss) (fun a hE => ?_)
                      refine t_val rfl rfl hE rfl (r_pick_f hE rfl rfl) (fun a hE => ?_)
                      refine t_nil ?_
                      exact hKr _ _ _ (hE.cut (.cons rfl (.cons rfl (.cons rfl (.cons rfl (.cons rfl (.cons rfl (.cons rfl (.cons rfl (.cons rfl Subs.nil)))))))))) hR H
                  · intro x62_45 a w hE hR H
                    refine t_val (v := .bool x62_45) rfl rfl hE rfl (r_move hE rfl) (fun a hE => ?_)
                    refine t_grp (n := (⟨89, []⟩ : Frm)) (w0 := w0) 3 (fun x66_46 : Bool => [(0, .pointer x0), (2, .pointer (some x2_2)), (3, .pointer (some x3_4)), (10, .int .i64 x10_7), (4, .int .i64 x10_7), (7, .pointer (some x7_28)), (8, .int .u64 x53_42.1), (9, .int .i64 x53_42.2.1), (66, .bool x66_46)]) (M.unbind H) (fun Kr hKr H => ?_) ?_
                    · rcases bool_em x62_45 with hb | hb
                      · replace H := M.ite_t hb H
                        have hE := hE.reb 63 x62_45 true hb rfl
                        refine t_off rfl hE rfl rfl rfl (fun a ea => ?_)
                        have hE := Env.put_some hE rfl ea; clear ea
                        refine t_off rfl hE rfl rfl rfl (fun a ea => ?_)
                        have hE := Env.put_some hE rfl ea; clear ea
                        refine t_val rfl rfl hE rfl (r_pick_t hE rfl rfl) (fun a hE => ?_)
                        refine t_nil ?_
                        exact hKr _ _ _ (hE.cut (.cons rfl (.cons rfl (.cons rfl (.cons rfl (.cons rfl (.cons rfl (.cons rfl (.cons rfl (.cons rfl Subs.nil)))))))))) hR H
                      · replace H := M.ite_f hb H
                        have hE := hE.reb 63 x62_45 false hb rfl
                        refine t_on rfl hE rfl rfl rfl ?_
                        refine t_val (v := .int .u64 x53_42.1) rfl rfl hE rfl (r_move hE rfl) (fun a hE => ?_)
                        refine t_on rfl hE rfl rfl rfl ?_
                        refine t_val (v := .bool (decide (x53_42.1 > 4096))) rfl rfl hE rfl (r_bin hE rfl rfl g_int b_gtr) (fun a hE => ?_)
                        refine t_val rfl rfl hE rfl (r_pick_f hE rfl rfl) (fun a hE => ?_)
                        refine t_nil ?_
                        exact hKr _ _ _ (hE.cut (.cons rfl (.cons rfl (.cons rfl (.cons rfl (.cons rfl (.cons rfl (.cons rfl (.cons rfl (.cons rfl Subs.nil)))))))))) hR H
                    · intro x66_46 a w hE hR H
                      refine t_val (v := .bool x66_46) rfl rfl hE rfl (r_move hE rfl) (fun a hE => ?_)
                      refine t_grp (n := (⟨89, []⟩ : Frm)) (w0 := w0) 7 (fun x74_47 : Bool => [(0, .pointer x0), (2, .pointer (some x2_2)), (3, .pointer (some x3_4)), (10, .int .i64 x10_7), (4, .int .i64 x10_7), (7, .pointer (some x7_28)), (8, .int .u64 x53_42.1), (9, .int .i64 x53_42.2.1), (74, .bool x74_47)]) (M.unbind H) (fun Kr hKr H => ?_) ?_
                      · rcases bool_em x66_46 with hb | hb
                        · replace H := M.ite_t hb H
                          have hE := hE.reb 67 x66_46 true hb rfl
                          refine t_off rfl hE rfl rfl rfl (fun a ea => ?_)
                          have hE := Env.put_some hE rfl ea; clear ea
                          refine t_off rfl hE rfl rfl rfl (fun a ea => ?_)
                          have hE := Env.put_some hE rfl ea; clear ea
                          refine t_off rfl hE rfl rfl rfl (fun a ea => ?_)
                          have hE := Env.put_some hE rfl ea; clear ea
                          refine t_off rfl hE rfl rfl rfl (fun a ea => ?_)
                          have hE := Env.put_some hE rfl ea; clear ea
                          refine t_off rfl hE rfl rfl rfl (fun a ea => ?_)
                          have hE := Env.put_some hE rfl ea; clear ea
                          refine t_off rfl hE rfl rfl rfl (fun a ea => ?_)
                          have hE := Env.put_some hE rfl ea; clear ea
                          refine t_val rfl rfl hE rfl (r_pick_t hE rfl rfl) (fun a hE => ?_)
                          refine t_nil ?_
                          exact hKr _ _ _ (hE.cut (.cons rfl (.cons rfl (.cons rfl (.cons rfl (.cons rfl (.cons rfl (.cons rfl (.cons rfl (.cons rfl Subs.nil)))))))))) hR H
                        · replace H := M.ite_f hb H
                          have hE := hE.reb 67 x66_46 false hb rfl
                          refine t_on rfl hE rfl rfl rfl ?_
                          refine t_val (v := .int .u64 x53_42.1) rfl rfl hE rfl (r_move hE rfl) (fun a hE => ?_)
                          refine t_on rfl hE rfl rfl rfl ?_
                          refine t_val (v := .int .i64 (IntKind.wrap .i64 x53_42.1)) rfl rfl hE rfl (r_convI hE rfl un106 un3) (fun a hE => ?_)
                          refine t_on rfl hE rfl rfl rfl ?_
                          refine t_val (v := .int .i64 (IntKind.wrap .i64 (2 + (IntKind.wrap .i64 x53_42.1)))) rfl rfl hE rfl (r_bin hE rfl rfl g_int b_add) (fun a hE => ?_)
                          refine t_on rfl hE rfl rfl rfl ?_
                          refine t_val (v := .pointer x0) rfl rfl hE rfl (r_move hE rfl) (fun a hE => ?_)
                          refine t_on rfl hE rfl rfl rfl ?_
                          refine t_call hE hR cl_disk_Disk_Sectors rfl (S_disk_Disk_Sectors x0) (M.unbind H) (fun x72_48 a w ea hR H => ?_)
                          have hE := Env.put_some hE rfl ea; clear ea
                          refine t_on rfl hE rfl rfl rfl ?_
                          refine t_val (v := .bool (decide ((IntKind.wrap .i64 (2 + (IntKind.wrap .i64 x53_42.1))) > x72_48))) rfl rfl hE rfl (r_bin hE rfl rfl g_int b_gtr) (fun a hE => ?_)
                          refine t_val rfl rfl hE rfl (r_pick_f hE rfl rfl) (fun a hE => ?_)
                          refine t_nil ?_
                          exact hKr _ _ _ (hE.cut (.cons rfl (.cons rfl (.cons rfl (.cons rfl (.cons rfl (.cons rfl (.cons rfl (.cons rfl (.cons rfl Subs.nil)))))))))) hR H
                      · intro x74_47 a w hE hR H
                        refine t_nil ?_
                        refine hK_44 _ _ ?_
                        refine w_cond x74_47 hE rfl (fun hb => ?_) (fun hb => ?_)
                        · replace H := M.ite_t hb H
                          refine w_exit ?_
                          refine Xu.same ?_
                          exact ⟨hE.cut (.cons rfl (.cons rfl (.cons rfl (.cons rfl Subs.nil)))), hR, H⟩
                        · replace H := M.ite_f hb H
                          refine w_skip ?_
                          refine hK_43 _ _ ?_
                          obtain ⟨x80_49, qx80_49, H⟩ := H
                          obtain ⟨x82_50, qx82_50, H⟩ := H
                          obtain ⟨x84_51, qx84_51, H⟩ := H
                          obtain ⟨x86_52, qx86_52, H⟩ := H
                          have hT := tab_of tb47_11 rfl rfl
                          refine d_start (fun w : World => (fun h : Heap => (hcell h ((x7_28).add 2) = some ((x80_49 : Sl).v)) ∧ (hcell h ((x7_28).add 1) = some (.int .i64 x84_51))) w.heap) [10, 11, 12] #[false, false, false, false, false, false, false, false, false, false, false, false, false] mo hR rfl rfl (fun w' e => by rw [e]; exact ⟨qx80_49, qx84_51⟩) (fun w hh hR hs => ?_)
                          replace H := M.at hh H; clear hh
                          refine d_pureg (i := 0) (v := .int .i64 x10_7) #[true, false, false, false, false, false, false, false, false, false, false, false, false] rfl rfl hT (by kernel_rfl) hE rfl (wanted_none rfl) (fun w => r_move hE rfl) (fun a hE => ?_)
                          refine d_pureg (i := 1) (v := .pointer x0) #[true, true, false, false, false, false, false, false, false, false, false, false, false] rfl rfl hT (by kernel_rfl) hE rfl (wanted_none rfl) (fun w => r_move hE rfl) (fun a hE => ?_)
                          refine d_pureg (i := 2) (v := .int .u64 x53_42.1) #[true, true, true, false, false, false, false, false, false, false, false, false, false] rfl rfl hT (by kernel_rfl) hE rfl (wanted_none rfl) (fun w => r_move hE rfl) (fun a hE => ?_)
                          refine d_pureg (i := 3) (v := .int .i64 (IntKind.wrap .i64 x53_42.1)) #[true, true, true, true, false, false, false, false, false, false, false, false, false] rfl rfl hT (by kernel_rfl) hE rfl (wanted_none rfl) (fun w => r_convI hE rfl un106 un3) (fun a hE => ?_)
                          refine d_pureg (i := 4) (v := .pointer (some ((x7_28).add 2))) #[true, true, true, true, true, false, false, false, false, false, false, false, false] rfl rfl hT (by kernel_rfl) hE rfl (wanted_none rfl) (fun w => r_fieldAddr hE rfl fd86_2) (fun a hE => ?_)
                          refine d_pureg (i := 6) (v := .int .i64 x53_42.2.1) #[true, true, true, true, true, false, true, false, false, false, false, false, false] rfl rfl hT (by kernel_rfl) hE rfl (wanted_none rfl) (fun w => r_move hE rfl) (fun a hE => ?_)
                          refine d_pureg (i := 8) (v := .pointer (some ((x7_28).add 1))) #[true, true, true, true, true, false, true, false, true, false, false, false, false] rfl rfl hT (by kernel_rfl) hE rfl (wanted_none rfl) (fun w => r_fieldAddr hE rfl fd86_1) (fun a hE => ?_)
                          refine d_read (i := 5) (v := (x80_49 : Sl).v) #[true, true, true, true, true, true, true, false, true, false, false, false, false] rfl rfl hT (by kernel_rfl) hE rfl (wanted_none rfl) hs (fun w s => r_load hE rfl sc30 s.1) (fun a hE => ?_)
                          refine d_pureg (i := 7) (v := (x82_50 : Sl).v) #[true, true, true, true, true, true, true, true, true, false, false, false, false] rfl rfl hT (by kernel_rfl) hE rfl (wanted_none rfl) (fun w => r_sliceL_l hE rfl rfl un30 sz5 qx82_50) (fun a hE => ?_)
                          refine d_read (i := 9) (v := .int .i64 x84_51) #[true, true, true, true, true, true, true, true, true, true, false, false, false] rfl rfl hT (by kernel_rfl) hE rfl (wanted_none rfl) hs (fun w s => r_load hE rfl sc2 s.2) (fun a hE => ?_)
                          refine d_pureg (i := 10) (v := .agg (#[.pointer x0, .int .i64 (IntKind.wrap .i64 x53_42.1), (x82_50 : Sl).v, .int .i64 x84_51, .int .i64 0, .bool true, .bool false] : Array Value)) #[true, true, true, true, true, true, true, true, true, true, true, false, false] rfl rfl hT (by kernel_rfl) hE rfl (wanted_none rfl) (fun w => r_build hE rfl zr40 pl40 (by rfl)) (fun a hE => ?_)
                          refine d_pureg (i := 11) (v := .pointer (some x86_52)) #[true, true, true, true, true, true, true, true, true, true, true, true, false] rfl rfl hT (by kernel_rfl) hE rfl (wanted_none rfl) (fun w => r_indexAddrA hE rfl rfl un89 sz40 qx86_52) (fun a hE => ?_)
                          obtain ⟨qz, H⟩ := H
                          obtain ⟨u_53, qu_53, H⟩ := H
                          refine d_stlh (i := 12) #[true, true, true, true, true, true, true, true, true, true, true, true, true] rfl rfl hT (by kernel_rfl) rfl hE hR (wanted_none rfl) (r_storeG hE rfl rfl sz40 qz qu_53)  (fun a w hE hR hh => ?_)
                          replace H := M.at hh H; clear hh
                          refine d_done hT (by kernel_rfl) ?_
                          exact ⟨hE.cut (.cons rfl (.cons rfl (.cons rfl (.cons rfl Subs.nil)))), hR, H⟩
  · replace H := M.ite_f hb H
    refine w_exit ?_
    refine Xu.same ?_
    refine hK_5 _ _ ?_
    refine w_seq (fun K hK_54 => ?_)
    refine t_region ?_
    obtain ⟨x88_55, qx88_55, H⟩ := H
    refine t_val (v := .agg x88_55) rfl rfl hE rfl (r_loadG hE rfl ag89 qx88_55) (fun a hE => ?_)
    obtain ⟨qz, H⟩ := H
    obtain ⟨u_56, qu_56, H⟩ := H
    refine t_sth rfl rfl hE hR (r_storeG hE rfl rfl sz89 qz qu_56) (fun a w hE hR hh => ?_)
    replace H := M.at hh H; clear hh
    refine t_nil ?_
    refine hK_54 _ _ ?_
    refine w_ret ?_
    obtain ⟨r2_57, qr2_57, H⟩ := H
    exact hret _ _ _ r2_57 _ hE hR (res_run hE rfl (RV.cellG rfl ag89 qr2_57 RV.nil)) rfl H

/-- ramble/wal.records -/
def wal_records_l1 (c29_16 : Int) (self1 : (Sl × Sl × Int) → M (Sl × Bool)) : (Sl × Sl × Int) → M (Sl × Bool) := fun s => match s with
  | (x0_13, x7_14, x30_15) => do
    M.ite (decide (x30_15 < c29_16)) (do
      let x34_22 ← num_Take x0_13
      let x48_25 ← M.ite (x34_22.2.2 != 0) (do
        M.pure true
        ) (do
        M.pure (decide (x34_22.1 > (IntKind.wrap .u64 (IntKind.wrap .i64 ((x0_13.len : Int) - x34_22.2.1)))))
        )
      M.ite x48_25 (do
        M.pure (Sl.nil, false)
        ) (do
        let x56_28 ← slL x0_13 x34_22.2.1 (IntKind.wrap .i64 (x34_22.2.1 + (IntKind.wrap .i64 x34_22.1))) 1
        let x57_29 ← slices_Clone_slbyte_byte x56_28
        let x58_30 ← bdL ty_sl_uint8 1 #[(x57_29 : Sl).v]
        let x59_31 ← apL ty_sl_uint8 1 24 (#[.slice none 0 0] : Array Value) x7_14 x58_30
        let x65_32 ← slL x0_13 (IntKind.wrap .i64 (x34_22.2.1 + (IntKind.wrap .i64 x34_22.1))) x0_13.len 1
        self1 (x65_32, x59_31, IntKind.wrap .u64 (x30_15 + 1))
        )
      ) (do
      M.pure (x7_14, (x0_13.len : Int) == 0)
      )
def wal_records (x0 : Sl) : M (Sl × Bool) := do
  let x13_3 ← num_Take x0
  let x25_6 ← M.ite (x13_3.2.2 != 0) (do
    M.pure true
    ) (do
    M.pure (decide (x13_3.1 > (IntKind.wrap .u64 (x0.len : Int))))
    )
  M.ite x25_6 (do
    M.pure (Sl.nil, false)
    ) (do
    let x28_9 ← slL x0 x13_3.2.1 x0.len 1
    M.loop (wal_records_l1 x13_3.1) (x28_9, Sl.nil, 0)
    )
theorem S_wal_records (x0 : Sl) : Sound Go.Proofs.Try.prog 69 #[(x0 : Sl).v] (fun (r : Sl × Bool) => .tuple #[(r.1 : Sl).v, .bool r.2]) (wal_records x0) := by
  refine sound_of [(0, (x0 : Sl).v)] Go.Proofs.Try.func69 rfl rfl (Nat.le_of_ble_eq_true rfl) (args_of ⟨rfl, trivial⟩) (fun w0 w Q R a hret hE hR H => ?_)
  unfold wal_records at H
  refine w_seq (fun K hK_1 => ?_)
  refine t_region ?_
  refine t_val (v := (Sl.nil : Sl).v) rfl rfl hE rfl (r_assign hE rfl) (fun a hE => ?_)
  refine t_val (v := .bool false) rfl rfl hE rfl (r_assign hE rfl) (fun a hE => ?_)
  refine t_nil ?_
  refine hK_1 _ _ ?_
  refine w_seq (fun K hK_2 => ?_)
  refine t_region ?_
  refine t_val (v := (x0 : Sl).v) rfl rfl hE rfl (r_move hE rfl) (fun a hE => ?_)
  refine t_call hE hR cl_num_Take rfl (S_num_Take x0) (M.unbind H) (fun x13_3 a w ea hR H => ?_)
  have hE := Env.put_some hE rfl ea; clear ea
  refine t_val (v := .tuple #[.int .u64 x13_3.1, .int .i64 x13_3.2.1, .int .i64 x13_3.2.2]) rfl rfl hE rfl (r_move hE rfl) (fun a hE => ?_)
  refine t_val (v := .int .u64 x13_3.1) rfl rfl hE rfl (r_extract hE rfl rfl) (fun a hE => ?_)
  refine t_val (v := .int .i64 x13_3.2.1) rfl rfl hE rfl (r_extract hE rfl rfl) (fun a hE => ?_)
  refine t_val (v := .int .i64 x13_3.2.2) rfl rfl hE rfl (r_extract hE rfl rfl) (fun a hE => ?_)
  refine t_val (v := .int .u64 x13_3.1) rfl rfl hE rfl (r_assign hE rfl) (fun a hE => ?_)
  refine t_val (v := .int .i64 x13_3.2.1) rfl rfl hE rfl (r_assign hE rfl) (fun a hE => ?_)
  refine t_val (v := .int .i64 x13_3.2.2) rfl rfl hE rfl (r_assign hE rfl) (fun a hE => ?_)
  refine t_nil ?_
  refine hK_2 _ _ ?_
  refine w_seq (fun K hK_4 => ?_)
  refine w_seq (fun K hK_5 => ?_)
  refine t_region ?_
  refine t_val (v := .int .i64 x13_3.2.2) rfl rfl hE rfl (r_move hE rfl) (fun a hE => ?_)
  refine t_val (v := .bool (x13_3.2.2 != 0)) rfl rfl hE rfl (r_bin hE rfl rfl g_int b_neq) (fun a hE => ?_)
  refine t_val (v := .bool (x13_3.2.2 != 0)) rfl rfl hE rfl (r_move hE rfl) (fun a hE => ?_)
  refine t_grp (n := (⟨71, []⟩ : Frm)) (w0 := w0) 6 (fun x25_6 : Bool => [(0, (x0 : Sl).v), (4, .int .u64 x13_3.1), (5, .int .i64 x13_3.2.1), (25, .bool x25_6)]) (M.unbind H) (fun Kr hKr H => ?_) ?_
  · rcases bool_em (x13_3.2.2 != 0) with hb | hb
    · replace H := M.ite_t hb H
      have hE := hE.reb 19 (x13_3.2.2 != 0) true hb rfl
      refine t_off rfl hE rfl rfl rfl (fun a ea => ?_)
      have hE := Env.put_some hE rfl ea; clear ea
      refine t_off rfl hE rfl rfl rfl (fun a ea => ?_)
      have hE := Env.put_some hE rfl ea; clear ea
      refine t_off rfl hE rfl rfl rfl (fun a ea => ?_)
      have hE := Env.put_some hE rfl ea; clear ea
      refine t_off rfl hE rfl rfl rfl (fun a ea => ?_)
      have hE := Env.put_some hE rfl ea; clear ea
      refine t_off rfl hE rfl rfl rfl (fun a ea => ?_)
      have hE := Env.put_some hE rfl ea; clear ea
      refine t_val rfl rfl hE rfl (r_pick_t hE rfl rfl) (fun a hE => ?_)
      refine t_nil ?_
      exact hKr _ _ _ (hE.cut (.cons rfl (.cons rfl (.cons rfl (.cons rfl Subs.nil))))) hR H
    · replace H := M.ite_f hb H
      have hE := hE.reb 19 (x13_3.2.2 != 0) false hb rfl
      refine t_on rfl hE rfl rfl rfl ?_
      refine t_val (v := .int .u64 x13_3.1) rfl rfl hE rfl (r_move hE rfl) (fun a hE => ?_)
      refine t_on rfl hE rfl rfl rfl ?_
      refine t_val (v := (x0 : Sl).v) rfl rfl hE rfl (r_move hE rfl) (fun a hE => ?_)
      refine t_on rfl hE rfl rfl rfl ?_
      refine t_val (v := .int .i64 (x0.len : Int)) rfl rfl hE rfl (r_len hE rfl 5 un30) (fun a hE => ?_)
      refine t_on rfl hE rfl rfl rfl ?_
      refine t_val (v := .int .u64 (IntKind.wrap .u64 (x0.len : Int))) rfl rfl hE rfl (r_convI hE rfl un3 un106) (fun a hE => ?_)
      refine t_on rfl hE rfl rfl rfl ?_
      refine t_val (v := .bool (decide (x13_3.1 > (IntKind.wrap .u64 (x0.len : Int))))) rfl rfl hE rfl (r_bin hE rfl rfl g_int b_gtr) (fun a hE => ?_)
      refine t_val rfl rfl hE rfl (r_pick_f hE rfl rfl) (fun a hE => ?_)
      refine t_nil ?_
      exact hKr _ _ _ (hE.cut (.cons rfl (.cons rfl (.cons rfl (.cons rfl Subs.nil))))) hR H
  · intro x25_6 a w hE hR H
    refine t_nil ?_
    refine hK_5 _ _ ?_
    refine w_cond x25_6 hE rfl (fun hb => ?_) (fun hb => ?_)
    · replace H := M.ite_t hb H
      refine w_seq (fun K hK_7 => ?_)
      refine t_region ?_
      refine t_val (v := (Sl.nil : Sl).v) rfl rfl hE rfl (r_assign hE rfl) (fun a hE => ?_)
      refine t_val (v := .bool false) rfl rfl hE rfl (r_assign hE rfl) (fun a hE => ?_)
      refine t_nil ?_
      refine hK_7 _ _ ?_
      refine w_ret ?_
      exact hret _ _ _ (Sl.nil, false) _ hE hR (res_run hE rfl (RV.tmp rfl (RV.tmp rfl RV.nil))) rfl H
    · replace H := M.ite_f hb H
      refine w_skip ?_
      refine hK_4 _ _ ?_
      refine w_seq (fun K hK_8 => ?_)
      refine t_region ?_
      refine t_val (v := (x0 : Sl).v) rfl rfl hE rfl (r_move hE rfl) (fun a hE => ?_)
      refine t_val (v := .int .i64 x13_3.2.1) rfl rfl hE rfl (r_move hE rfl) (fun a hE => ?_)
      obtain ⟨x28_9, qx28_9, H⟩ := H
      refine t_val (v := (x28_9 : Sl).v) rfl rfl hE rfl (r_sliceL_l hE rfl rfl un30 sz5 qx28_9) (fun a hE => ?_)
      refine t_val (v := (x28_9 : Sl).v) rfl rfl hE rfl (r_assign hE rfl) (fun a hE => ?_)
      refine t_nil ?_
      refine hK_8 _ _ ?_
      refine w_seq (fun K hK_10 => ?_)
      refine t_region ?_
      refine t_val (v := (Sl.nil : Sl).v) rfl rfl hE rfl (r_assign hE rfl) (fun a hE => ?_)
      refine t_nil ?_
      refine hK_10 _ _ ?_
      refine w_seq (fun K hK_11 => ?_)
      refine w_seq (fun K hK_12 => ?_)
      refine t_region ?_
      refine t_val (v := .int .u64 x13_3.1) rfl rfl hE rfl (r_move hE rfl) (fun a hE => ?_)
      refine t_val (v := .int .u64 0) rfl rfl hE rfl (r_move hE rfl) (fun a hE => ?_)
      refine t_nil ?_
      refine hK_12 _ _ ?_
      refine w_block ?_
      refine l_loop (fun (s : Sl × Sl × Int) => (⟨71, []⟩ : Frm)) (fun (s : Sl × Sl × Int) => [(0, (s.1 : Sl).v), (7, (s.2.1 : Sl).v), (29, .int .u64 x13_3.1), (30, .int .u64 s.2.2)]) H (hE.cut (.cons rfl (.cons rfl (.cons rfl (.cons rfl Subs.nil))))) hR (fun Y self1 hY_17 s a w hE hR H => ?_)
      rcases s with ⟨x0_13, x7_14, x30_15⟩
      replace hE : Env (⟨71, []⟩ : Frm) a [(0, (x0_13 : Sl).v), (7, (x7_14 : Sl).v), (29, .int .u64 x13_3.1), (30, .int .u64 x30_15)] := hE
      replace H : (wal_records_l1 x13_3.1 self1 (x0_13, x7_14, x30_15)).wp w.heap Q := H
      unfold wal_records_l1 at H
      refine w_seq (fun K hK_18 => ?_)
      refine t_region ?_
      refine t_val (v := .bool (decide (x30_15 < x13_3.1))) rfl rfl hE rfl (r_bin hE rfl rfl g_int b_lss) (fun a hE => ?_)
      refine t_nil ?_
      refine hK_18 _ _ ?_
      refine w_seq (fun K hK_19 => ?_)
      refine w_cond (decide (x30_15 < x13_3.1)) hE rfl (fun hb => ?_) (fun hb => ?_)
      · replace H := M.ite_t hb H
        refine w_skip ?_
        refine hK_19 _ _ ?_
        refine w_seq (fun K hK_20 => ?_)
        refine w_block ?_
        refine w_seq (fun K hK_21 => ?_)
        refine t_region ?_
        refine t_val (v := (x0_13 : Sl).v) rfl rfl hE rfl (r_move hE rfl) (fun a hE => ?_)
        refine t_call hE hR cl_num_Take rfl (S_num_Take x0_13) (M.unbind H) (fun x34_22 a w ea hR H => ?_)
        have hE := Env.put_some hE rfl ea; clear ea
        refine t_val (v := .tuple #[.int .u64 x34_22.1, .int .i64 x34_22.2.1, .int .i64 x34_22.2.2]) rfl rfl hE rfl (r_move hE rfl) (fun a hE => ?_)
        refine t_val (v := .int .u64 x34_22.1) rfl rfl hE rfl (r_extract hE rfl rfl) (fun a hE => ?_)
        refine t_val (v := .int .i64 x34_22.2.1) rfl rfl hE rfl (r_extract hE rfl rfl) (fun a hE => ?_)
        refine t_val (v := .int .i64 x34_22.2.2) rfl rfl hE rfl (r_extract hE rfl rfl) (fun a hE => ?_)
        refine t_val (v := .int .u64 x34_22.1) rfl rfl hE rfl (r_assign hE rfl) (fun a hE => ?_)
        refine t_val (v := .int .i64 x34_22.2.1) rfl rfl hE rfl (r_assign hE rfl) (fun a hE => ?_)
        refine t_val (v := .int .i64 x34_22.2.2) rfl rfl hE rfl (r_assign hE rfl) (fun a hE => ?_)
        refine t_nil ?_
        refine hK_21 _ _ ?_
        refine w_seq (fun K hK_23 => ?_)
        refine w_seq (fun K hK_24 => ?_)
        refine t_region ?_
        refine t_val (v := .int .i64 x34_22.2.2) rfl rfl hE rfl (r_move hE rfl) (fun a hE => ?_)
        refine t_val (v := .bool (x34_22.2.2 != 0)) rfl rfl hE rfl (r_bin hE rfl rfl g_int b_neq) (fun a hE => ?_)
        refine t_val (v := .bool (x34_22.2.2 != 0)) rfl rfl hE rfl (r_move hE rfl) (fun a hE => ?_)
        refine t_grp (n := (⟨71, []⟩ : Frm)) (w0 := w0) 8 (fun x48_25 : Bool => [(29, .int .u64 x13_3.1), (0, (x0_13 : Sl).v), (7, (x7_14 : Sl).v), (30, .int .u64 x30_15), (8, .int .u64 x34_22.1), (9, .int .i64 x34_22.2.1), (48, .bool x48_25)]) (M.unbind H) (fun Kr hKr H => ?_) ?_
        · rcases bool_em (x34_22.2.2 != 0) with hb | hb
          · replace H := M.ite_t hb H
            have hE := hE.reb 40 (x34_22.2.2 != 0) true hb rfl
            refine t_off rfl hE rfl rfl rfl (fun a ea => ?_)
            have hE := Env.put_some hE rfl ea; clear ea
            refine t_off rfl hE rfl rfl rfl (fun a ea => ?_)
            have hE := Env.put_some hE rfl ea; clear ea
            refine t_off rfl hE rfl rfl rfl (fun a ea => ?_)
            have hE := Env.put_some hE rfl ea; clear ea
            refine t_off rfl hE rfl rfl rfl (fun a ea => ?_)
            have hE := Env.put_some hE rfl ea; clear ea
            refine t_off rfl hE rfl rfl rfl (fun a ea => ?_)
            have hE := Env.put_some hE rfl ea; clear ea
            refine t_off rfl hE rfl rfl rfl (fun a ea => ?_)
            have hE := Env.put_some hE rfl ea; clear ea
            refine t_off rfl hE rfl rfl rfl (fun a ea => ?_)
            have hE := Env.put_some hE rfl ea; clear ea
            refine t_val rfl rfl hE rfl (r_pick_t hE rfl rfl) (fun a hE => ?_)
            refine t_nil ?_
            exact hKr _ _ _ (hE.cut (.cons rfl (.cons rfl (.cons rfl (.cons rfl (.cons rfl (.cons rfl (.cons rfl Subs.nil)))))))) hR H
          · replace H := M.ite_f hb H
            have hE := hE.reb 40 (x34_22.2.2 != 0) false hb rfl
            refine t_on rfl hE rfl rfl rfl ?_
            refine t_val (v := .int .u64 x34_22.1) rfl rfl hE rfl (r_move hE rfl) (fun a hE => ?_)
            refine t_on rfl hE rfl rfl rfl ?_
            refine t_val (v := (x0_13 : Sl).v) rfl rfl hE rfl (r_move hE rfl) (fun a hE => ?_)
            refine t_on rfl hE rfl rfl rfl ?_
            refine t_val (v := .int .i64 (x0_13.len : Int)) rfl rfl hE rfl (r_len hE rfl 5 un30) (fun a hE => ?_)
            refine t_on rfl hE rfl rfl rfl ?_
            refine t_val (v := .int .i64 x34_22.2.1) rfl rfl hE rfl (r_move hE rfl) (fun a hE => ?_)
            refine t_on rfl hE rfl rfl rfl ?_
            refine t_val (v := .int .i64 (IntKind.wrap .i64 ((x0_13.len : Int) - x34_22.2.1))) rfl rfl hE rfl (r_bin hE rfl rfl g_int b_sub) (fun a hE => ?_)
            refine t_on rfl hE rfl rfl rfl ?_
            refine t_val (v := .int .u64 (IntKind.wrap .u64 (IntKind.wrap .i64 ((x0_13.len : Int) - x34_22.2.1)))) rfl rfl hE rfl (r_convI hE rfl un3 un106) (fun a hE => ?_)
            refine t_on rfl hE rfl rfl rfl ?_
            refine t_val (v := .bool (decide (x34_22.1 > (IntKind.wrap .u64 (IntKind.wrap .i64 ((x0_13.len : Int) - x34_22.2.1)))))) rfl rfl hE rfl (r_bin hE rfl rfl g_int b_gtr) (fun a hE => ?_)
            refine t_val rfl rfl hE rfl (r_pick_f hE rfl rfl) (fun a hE => ?_)
            refine t_nil ?_
            exact hKr _ _ _ (hE.cut (.cons rfl (.cons rfl (.cons rfl (.cons rfl (.cons rfl (.cons rfl (.cons rfl Subs.nil)))))))) hR H
        · intro x48_25 a w hE hR H
          refine t_nil ?_
          refine hK_24 _ _ ?_
          refine w_cond x48_25 hE rfl (fun hb => ?_) (fun hb => ?_)
          · replace H := M.ite_t hb H
            refine w_seq (fun K hK_26 => ?_)
            refine t_region ?_
            refine t_val (v := (Sl.nil : Sl).v) rfl rfl hE rfl (r_assign hE rfl) (fun a hE => ?_)
            refine t_val (v := .bool false) rfl rfl hE rfl (r_assign hE rfl) (fun a hE => ?_)
            refine t_nil ?_
            refine hK_26 _ _ ?_
            refine w_ret ?_
            exact hret _ _ _ (Sl.nil, false) _ hE hR (res_run hE rfl (RV.tmp rfl (RV.tmp rfl RV.nil))) rfl H
          · replace H := M.ite_f hb H
            refine w_skip ?_
            refine hK_23 _ _ ?_
            refine w_seq (fun K hK_27 => ?_)
            refine t_region ?_
            refine t_val (v := (x7_14 : Sl).v) rfl rfl hE rfl (r_move hE rfl) (fun a hE => ?_)
            refine t_val (v := (x0_13 : Sl).v) rfl rfl hE rfl (r_move hE rfl) (fun a hE => ?_)
            refine t_val (v := .int .i64 x34_22.2.1) rfl rfl hE rfl (r_move hE rfl) (fun a hE => ?_)
            refine t_val (v := .int .i64 x34_22.2.1) rfl rfl hE rfl (r_move hE rfl) (fun a hE => ?_)
            refine t_val (v := .int .u64 x34_22.1) rfl rfl hE rfl (r_move hE rfl) (fun a hE => ?_)
            refine t_val (v := .int .i64 (IntKind.wrap .i64 x34_22.1)) rfl rfl hE rfl (r_convI hE rfl un106 un3) (fun a hE => ?_)
            refine t_val (v := .int .i64 (IntKind.wrap .i64 (x34_22.2.1 + (IntKind.wrap .i64 x34_22.1)))) rfl rfl hE rfl (r_bin hE rfl rfl g_int b_add) (fun a hE => ?_)
            obtain ⟨x56_28, qx56_28, H⟩ := H
            refine t_val (v := (x56_28 : Sl).v) rfl rfl hE rfl (r_sliceL_lh hE rfl rfl rfl un30 sz5 qx56_28) (fun a hE => ?_)
            refine t_call hE hR cl_slices_Clone_slbyte_byte rfl (S_slices_Clone_slbyte_byte x56_28) (M.unbind H) (fun x57_29 a w ea hR H => ?_)
            have hE := Env.put_some hE rfl ea; clear ea
            obtain ⟨x58_30, qx58_30, H⟩ := H
            refine t_valh (v := (x58_30 : Sl).v) rfl rfl hE rfl hR (r_buildL (cells := #[(x57_29 : Sl).v]) hE rfl un32 sz30 zr30 rfl rfl qx58_30) (fun a w hE hR hh => ?_)
            replace H := M.at hh H; clear hh
            refine t_ex (fun x59_31 => (x59_31 : Sl).v) rfl rfl hR (M.unbind H) (fun Q H => ap_run hE rfl rfl ap32 H) (fun x59_31 a w ea hR H => ?_)
            have hE := Env.put_some hE rfl ea; clear ea
            refine t_val (v := (x59_31 : Sl).v) rfl rfl hE rfl (r_assign hE rfl) (fun a hE => ?_)
            refine t_nil ?_
            refine hK_27 _ _ ?_
            refine t_region ?_
            refine t_val (v := (x0_13 : Sl).v) rfl rfl hE rfl (r_move hE rfl) (fun a hE => ?_)
            refine t_val (v := .int .i64 x34_22.2.1) rfl rfl hE rfl (r_move hE rfl) (fun a hE => ?_)
            refine t_val (v := .int .u64 x34_22.1) rfl rfl hE rfl (r_move hE rfl) (fun a hE => ?_)
            refine t_val (v := .int .i64 (IntKind.wrap .i64 x34_22.1)) rfl rfl hE rfl (r_convI hE rfl un106 un3) (fun a hE => ?_)
            refine t_val (v := .int .i64 (IntKind.wrap .i64 (x34_22.2.1 + (IntKind.wrap .i64 x34_22.1)))) rfl rfl hE rfl (r_bin hE rfl rfl g_int b_add) (fun a hE => ?_)
            obtain ⟨x65_32, qx65_32, H⟩ := H
            refine t_val (v := (x65_32 : Sl).v) rfl rfl hE rfl (r_sliceL_l hE rfl rfl un30 sz5 qx65_32) (fun a hE => ?_)
            refine t_val (v := (x65_32 : Sl).v) rfl rfl hE rfl (r_assign hE rfl) (fun a hE => ?_)
            refine t_nil ?_
            refine hK_20 _ _ ?_
            refine t_region ?_
            refine t_val (v := .int .u64 (IntKind.wrap .u64 (x30_15 + 1))) rfl rfl hE rfl (r_bin hE rfl rfl g_int b_add) (fun a hE => ?_)
            refine t_val (v := .int .u64 (IntKind.wrap .u64 (x30_15 + 1))) rfl rfl hE rfl (r_move hE rfl) (fun a hE => ?_)
            refine t_nil ?_
            exact hY_17 (x65_32, x59_31, IntKind.wrap .u64 (x30_15 + 1)) _ _ (hE.cut (.cons rfl (.cons rfl (.cons rfl (.cons rfl Subs.nil))))) hR H
      · replace H := M.ite_f hb H
        refine w_exit ?_
        refine Xu.same ?_
        refine hK_11 _ _ ?_
        refine w_seq (fun K hK_33 => ?_)
        refine t_region ?_
        refine t_val (v := (x7_14 : Sl).v) rfl rfl hE rfl (r_move hE rfl) (fun a hE => ?_)
        refine t_val (v := (x0_13 : Sl).v) rfl rfl hE rfl (r_move hE rfl) (fun a hE => ?_)
        refine t_val (v := .int .i64 (x0_13.len : Int)) rfl rfl hE rfl (r_len hE rfl 5 un30) (fun a hE => ?_)
        refine t_val (v := .bool ((x0_13.len : Int) == 0)) rfl rfl hE rfl (r_bin hE rfl rfl g_int b_eql) (fun a hE => ?_)
        refine t_val (v := (x7_14 : Sl).v) rfl rfl hE rfl (r_assign hE rfl) (fun a hE => ?_)
        refine t_val (v := .bool ((x0_13.len : Int) == 0)) rfl rfl hE rfl (r_assign hE rfl) (fun a hE => ?_)
        refine t_nil ?_
        refine hK_33 _ _ ?_
        refine w_ret ?_
        exact hret _ _ _ (x7_14, (x0_13.len : Int) == 0) _ hE hR (res_run hE rfl (RV.tmp rfl (RV.tmp rfl RV.nil))) rfl H

end Gx
namespace Gx
open Go
set_option linter.unusedVariables false
set_option maxRecDepth 100000
/-- (*ramble/wal.Log).next -/
def wal_Log_next_j2 (c9_44 : Sl) (c10_45 : Bool) : M (Sl × Bool) := do
  M.pure (c9_44, c10_45)
def wal_Log_next_j1 (self1 : (Sl × Int) → M (Sl × Bool)) (c0_32 : Option Addr) (c4_33 : Sl) (c5_34 : Int) (c8_35 : Addr) (x59_31 : Bool) : M (Sl × Bool) := do
  M.ite x59_31 (do
    M.pure (Sl.nil, false)
    ) (do
    let x62_38 ← ldL ((c8_35).add 2)
    let x63_39 ← apL ty_uint8 1 1 (#[.int .u8 0] : Array Value) c4_33 x62_38
    let x65_41 ← ldI .i64 ((c8_35).add 0)
    M.ite (x65_41 == 3) (do
      let x69_43 ← wal_records x63_39
      M.ite x69_43.2 (do
        let x76_48 ← nilP c0_32
        stV ((x76_48).add 4) (.int .i64 (IntKind.wrap .i64 (c5_34 + 1)))
        wal_Log_next_j2 x69_43.1 x69_43.2
        ) (do
        wal_Log_next_j2 x69_43.1 x69_43.2
        )
      ) (do
      self1 (x63_39, IntKind.wrap .i64 (c5_34 + 1))
      )
    )
noncomputable def ro48_9 : Array Oper := opsOf Go.Proofs.Try.f48 9
def tE48_9 : List (List Nat) := [[], [0], [1], [2], [3, 2], [2], [2], [5, 6, 2, 2], [4, 7, 2], [2, 8], [9, 7], [10], [11, 10], [12, 10], [13, 10, 10], [14], [15, 14], [16, 14], [14, 17, 10], [10, 18]]
def tC48_9 : List (List Nat) := [[], [0], [1], [2], [2, 3], [2], [2], [2, 5, 6], [2, 4, 7], [2, 8], [9], [10], [10, 11], [10, 12], [10, 13], [14], [14, 15], [14, 16], [10, 14, 17], [10, 18]]
def tW48_9 : List (List Nat) := [[], [0], [0, 1], [0, 1, 2], [0, 1, 2, 3], [0, 1, 2], [0, 1, 2], [0, 1, 2, 5, 6], [0, 1, 2, 3, 4, 5, 6, 7], [0, 1, 2, 3, 4, 5, 6, 7, 8], [0, 1, 2, 3, 4, 5, 6, 7, 8, 9], [0, 1, 2, 3, 4, 5, 6, 7, 8, 9, 10], [0, 1, 2, 3, 4, 5, 6, 7, 8, 9, 10, 11], [0, 1, 2, 3, 4, 5, 6, 7, 8, 9, 10, 11, 12], [0, 1, 2, 3, 4, 5, 6, 7, 8, 9, 10, 11, 12, 13], [0, 1, 2, 3, 4, 5, 6, 7, 8, 9, 10, 11, 12, 13, 14], [0, 1, 2, 3, 4, 5, 6, 7, 8, 9, 10, 11, 12, 13, 14, 15], [0, 1, 2, 3, 4, 5, 6, 7, 8, 9, 10, 11, 12, 13, 14, 15, 16], [0, 1, 2, 3, 4, 5, 6, 7, 8, 9, 10, 11, 12, 13, 14, 15, 16, 17], [0, 1, 2, 3, 4, 5, 6, 7, 8, 9, 10, 11, 12, 13, 14, 15, 16, 17, 18]]
theorem tb48_9 : tabAt Go.Proofs.Try.f48 9 tE48_9 tC48_9 tW48_9 = true := by kernel_rfl
theorem tb48_9m : tabMB 20 tE48_9 tC48_9 tW48_9 [0, 1, 2, 4, 12, 4, 4, 100, 148, 260, 640, 1024, 3072, 5120, 9216, 16384, 49152, 81920, 148480, 263168] [0, 1, 2, 4, 12, 4, 4, 100, 148, 260, 512, 1024, 3072, 5120, 9216, 16384, 49152, 81920, 148480, 263168] [0, 1, 3, 7, 15, 7, 7, 103, 255, 511, 1023, 2047, 4095, 8191, 16383, 32767, 65535, 131071, 262143, 524287] = true := by kernel_rfl
def wal_Log_next_l1 (c0_9 : Option Addr) (self1 : (Sl × Int) → M (Sl × Bool)) : (Sl × Int) → M (Sl × Bool) := fun s => match s with
  | (x4_7, x5_8) => do
    let x17_13 ← nilP c0_9
    let x19_14 ← ldI .i64 ((x17_13).add 1)
    M.ite (decide (x5_8 < x19_14)) (do
      let x25_17 ← nilP c0_9
      let x27_18 ← ldP ((x25_17).add 0)
      let x30_19 ← disk_Disk_Read x27_18 (IntKind.wrap .i64 (2 + x5_8))
      let x6_20 ← mkB ty_api_Sector (Array.replicate 128 (.int .u8 0) : Array Value)
      M.need (x30_19.1.size = 128)
      stG x6_20 x30_19.1
      M.ite (x30_19.2 != 0) (do
        M.pure (Sl.nil, false)
        ) (do
        let x36_26 ← ldG 128 x6_20
        let x37_27 ← sector_Open x36_26
        let x8_28 ← mkB ty_api_Frame (#[.int .i64 0, .int .i64 0, .slice none 0 0] : Array Value)
        M.need (x37_27.1.size = 3)
        stG x8_28 x37_27.1
        M.ite (x37_27.2 != 0) (do
          wal_Log_next_j1 self1 c0_9 x4_7 x5_8 x8_28 true
          ) (do
          let x44_51 ← ldI .i64 ((x8_28).add 1)
          let x47_52 ← wal_Log_at c0_9 x5_8
          chk (fun h : Heap => (hcell h ((x8_28).add 1) = some (.int .i64 x44_51)))
          M.ite (x44_51 != x47_52) (do
            wal_Log_next_j1 self1 c0_9 x4_7 x5_8 x8_28 true
            ) (do
            let x52_54 ← ldI .i64 ((x8_28).add 0)
            M.ite (x52_54 != 2) (do
              let x56_56 ← ldI .i64 ((x8_28).add 0)
              wal_Log_next_j1 self1 c0_9 x4_7 x5_8 x8_28 (x56_56 != 3)
              ) (do
              wal_Log_next_j1 self1 c0_9 x4_7 x5_8 x8_28 false
              )
            )
          )
        )
      ) (do
      M.pure (Sl.nil, false)
      )
def wal_Log_next (x0 : Option Addr) : M (Sl × Bool) := do
  let x12_5 ← nilP x0
  let x14_6 ← ldI .i64 ((x12_5).add 4)
  M.loop (wal_Log_next_l1 x0) (Sl.nil, x14_6)
theorem S_wal_Log_next (x0 : Option Addr) : Sound Go.Proofs.Try.prog 48 #[.pointer x0] (fun (r : Sl × Bool) => .tuple #[(r.1 : Sl).v, .bool r.2]) (wal_Log_next x0) := by
  refine sound_of [(0, .pointer x0)] Go.Proofs.Try.func48 rfl rfl (Nat.le_of_ble_eq_true rfl) (args_of ⟨rfl, trivial⟩) (fun w0 w Q R a hret hE hR H => ?_)
  unfold wal_Log_next at H
  refine w_seq (fun K hK_1 => ?_)
  refine t_region ?_
  refine t_val (v := (Sl.nil : Sl).v) rfl rfl hE rfl (r_assign hE rfl) (fun a hE => ?_)
  refine t_val (v := .bool false) rfl rfl hE rfl (r_assign hE rfl) (fun a hE => ?_)
  refine t_nil ?_
  refine hK_1 _ _ ?_
  refine w_seq (fun K hK_2 => ?_)
  refine t_region ?_
  refine t_val (v := (Sl.nil : Sl).v) rfl rfl hE rfl (r_assign hE rfl) (fun a hE => ?_)
  refine t_nil ?_
  refine hK_2 _ _ ?_
  refine w_seq (fun K hK_3 => ?_)
  refine w_seq (fun K hK_4 => ?_)
  refine t_region ?_
  refine t_val (v := .pointer x0) rfl rfl hE rfl (r_move hE rfl) (fun a hE => ?_)
  obtain ⟨x12_5, qx12_5, H⟩ := H
  refine t_val (v := .pointer (some x12_5)) rfl rfl hE rfl (r_nilCheck hE (hx_eq rfl (congrArg Value.pointer qx12_5))) (fun a hE => ?_)
  refine t_val (v := .pointer (some ((x12_5).add 4))) rfl rfl hE rfl (r_fieldAddr hE rfl fd40_4) (fun a hE => ?_)
  obtain ⟨x14_6, qx14_6, H⟩ := H
  refine t_val (v := .int .i64 x14_6) rfl rfl hE rfl (r_load hE rfl sc3 qx14_6) (fun a hE => ?_)
  refine t_val (v := .int .i64 x14_6) rfl rfl hE rfl (r_assign hE rfl) (fun a hE => ?_)
  refine t_nil ?_
  refine hK_4 _ _ ?_
  refine w_block ?_
  refine l_loop (fun (s : Sl × Int) => (⟨80, []⟩ : Frm)) (fun (s : Sl × Int) => [(0, .pointer x0), (4, (s.1 : Sl).v), (5, .int .i64 s.2)]) H (hE.cut (.cons rfl (.cons rfl (.cons rfl Subs.nil)))) hR (fun Y self1 hY_10 s a w hE hR H => ?_)
  rcases s with ⟨x4_7, x5_8⟩
  replace hE : Env (⟨80, []⟩ : Frm) a [(0, .pointer x0), (4, (x4_7 : Sl).v), (5, .int .i64 x5_8)] := hE
  replace H : (wal_Log_next_l1 x0 self1 (x4_7, x5_8)).wp w.heap Q := H
  unfold wal_Log_next_l1 at H
  refine w_seq (fun K hK_11 => ?_)
  refine w_seq (fun K hK_12 => ?_)
  refine t_region ?_
  refine t_val (v := .int .i64 x5_8) rfl rfl hE rfl (r_move hE rfl) (fun a hE => ?_)
  refine t_val (v := .pointer x0) rfl rfl hE rfl (r_move hE rfl) (fun a hE => ?_)
  obtain ⟨x17_13, qx17_13, H⟩ := H
  refine t_val (v := .pointer (some x17_13)) rfl rfl hE rfl (r_nilCheck hE (hx_eq rfl (congrArg Value.pointer qx17_13))) (fun a hE => ?_)
  refine t_val (v := .pointer (some ((x17_13).add 1))) rfl rfl hE rfl (r_fieldAddr hE rfl fd40_1) (fun a hE => ?_)
  obtain ⟨x19_14, qx19_14, H⟩ := H
  refine t_val (v := .int .i64 x19_14) rfl rfl hE rfl (r_load hE rfl sc3 qx19_14) (fun a hE => ?_)
  refine t_val (v := .bool (decide (x5_8 < x19_14))) rfl rfl hE rfl (r_bin hE rfl rfl g_int b_lss) (fun a hE => ?_)
  refine t_nil ?_
  refine hK_12 _ _ ?_
  refine w_cond (decide (x5_8 < x19_14)) hE rfl (fun hb => ?_) (fun hb => ?_)
  · replace H := M.ite_t hb H
    refine w_skip ?_
    refine hK_11 _ _ ?_
    refine w_seq (fun K hK_15 => ?_)
    refine w_block ?_
    refine w_seq (fun K hK_16 => ?_)
    refine t_region ?_
    refine t_val (v := .pointer x0) rfl rfl hE rfl (r_move hE rfl) (fun a hE => ?_)
    obtain ⟨x25_17, qx25_17, H⟩ := H
    refine t_val (v := .pointer (some x25_17)) rfl rfl hE rfl (r_nilCheck hE (hx_eq rfl (congrArg Value.pointer qx25_17))) (fun a hE => ?_)
    refine t_val (v := .pointer (some ((x25_17).add 0))) rfl rfl hE rfl (r_fieldAddr hE rfl fd40_0) (fun a hE => ?_)
    obtain ⟨x27_18, qx27_18, H⟩ := H
    refine t_val (v := .pointer x27_18) rfl rfl hE rfl (r_load hE rfl sc23 qx27_18) (fun a hE => ?_)
    refine t_val (v := .int .i64 x5_8) rfl rfl hE rfl (r_move hE rfl) (fun a hE => ?_)
    refine t_val (v := .int .i64 (IntKind.wrap .i64 (2 + x5_8))) rfl rfl hE rfl (r_bin hE rfl rfl g_int b_add) (fun a hE => ?_)
    refine t_call hE hR cl_disk_Disk_Read rfl (S_disk_Disk_Read x27_18 (IntKind.wrap .i64 (2 + x5_8))) (M.unbind H) (fun x30_19 a w ea hR H => ?_)
    have hE := Env.put_some hE rfl ea; clear ea
    refine t_val (v := .tuple #[.agg x30_19.1, .int .i64 x30_19.2]) rfl rfl hE rfl (r_move hE rfl) (fun a hE => ?_)
    refine t_val (v := .agg x30_19.1) rfl rfl hE rfl (r_extract hE rfl rfl) (fun a hE => ?_)
    refine t_val (v := .int .i64 x30_19.2) rfl rfl hE rfl (r_extract hE rfl rfl) (fun a hE => ?_)
    obtain ⟨x6_20, qx6_20, H⟩ := H
    refine t_valh (v := .pointer (some x6_20)) rfl rfl hE rfl hR (r_alloc zr47 qx6_20) (fun a w hE hR hh => ?_)
    replace H := M.at hh H; clear hh
    obtain ⟨qz, H⟩ := H
    obtain ⟨u_21, qu_21, H⟩ := H
    refine t_sth rfl rfl hE hR (r_storeG hE rfl rfl sz47 qz qu_21) (fun a w hE hR hh => ?_)
    replace H := M.at hh H; clear hh
    refine t_val (v := .int .i64 x30_19.2) rfl rfl hE rfl (r_assign hE rfl) (fun a hE => ?_)
    refine t_nil ?_
    refine hK_16 _ _ ?_
    refine w_seq (fun K hK_22 => ?_)
    refine w_seq (fun K hK_23 => ?_)
    refine t_region ?_
    refine t_val (v := .int .i64 x30_19.2) rfl rfl hE rfl (r_move hE rfl) (fun a hE => ?_)
    refine t_val (v := .bool (x30_19.2 != 0)) rfl rfl hE rfl (r_bin hE rfl rfl g_int b_neq) (fun a hE => ?_)
    refine t_nil ?_
    refine hK_23 _ _ ?_
    refine w_cond (x30_19.2 != 0) hE rfl (fun hb => ?_) (fun hb => ?_)
    · replace H := M.ite_t hb H
      refine w_seq (fun K hK_24 => ?_)
      refine t_region ?_
      refine t_val (v := (Sl.nil : Sl).v) rfl rfl hE rfl (r_assign hE rfl) (fun a hE => ?_)
      refine t_val (v := .bool false) rfl rfl hE rfl (r_assign hE rfl) (fun a hE => ?_)
      refine t_nil ?_
      refine hK_24 _ _ ?_
      refine w_ret ?_
      exact hret _ _ _ (Sl.nil, false) _ hE hR (res_run hE rfl (RV.tmp rfl (RV.tmp rfl RV.nil))) rfl H
    · replace H := M.ite_f hb H
      refine w_skip ?_
      refine hK_22 _ _ ?_
      refine w_seq (fun K hK_25 => ?_)
      refine t_region ?_
      obtain ⟨x36_26, qx36_26, H⟩ := H
      refine t_val (v := .agg x36_26) rfl rfl hE rfl (r_loadG hE rfl ag47 qx36_26) (fun a hE => ?_)
      refine t_call hE hR cl_sector_Open rfl (S_sector_Open x36_26) (M.unbind H) (fun x37_27 a w ea hR H => ?_)
      have hE := Env.put_some hE rfl ea; clear ea
      refine t_val (v := .tuple #[.agg x37_27.1, .int .i64 x37_27.2]) rfl rfl hE rfl (r_move hE rfl) (fun a hE => ?_)
      refine t_val (v := .agg x37_27.1) rfl rfl hE rfl (r_extract hE rfl rfl) (fun a hE => ?_)
      refine t_val (v := .int .i64 x37_27.2) rfl rfl hE rfl (r_extract hE rfl rfl) (fun a hE => ?_)
      obtain ⟨x8_28, qx8_28, H⟩ := H
      refine t_valh (v := .pointer (some x8_28)) rfl rfl hE rfl hR (r_alloc zr86 qx8_28) (fun a w hE hR hh => ?_)
      replace H := M.at hh H; clear hh
      obtain ⟨qz, H⟩ := H
      obtain ⟨u_29, qu_29, H⟩ := H
      refine t_sth rfl rfl hE hR (r_storeG hE rfl rfl sz86 qz qu_29) (fun a w hE hR hh => ?_)
      replace H := M.at hh H; clear hh
      refine t_val (v := .int .i64 x37_27.2) rfl rfl hE rfl (r_assign hE rfl) (fun a hE => ?_)
      refine t_nil ?_
      refine hK_25 _ _ ?_
      refine w_seq (fun K hK_30 => ?_)
      refine w_seq_join (fun a w => ∃ (x59_31 : Bool), Env (⟨80, []⟩ : Frm) a [(0, .pointer x0), (4, (x4_7 : Sl).v), (5, .int .i64 x5_8), (8, .pointer (some x8_28)), (59, .bool x59_31)] ∧ Rest w0 w ∧ (wal_Log_next_j1 self1 x0 x4_7 x5_8 x8_28 x59_31).wp w.heap Q) ?_ ?_
      · rintro a w ⟨x59_31, hE, hR, H⟩
        unfold wal_Log_next_j1 at H
        refine w_cond x59_31 hE rfl (fun hb => ?_) (fun hb => ?_)
        · replace H := M.ite_t hb H
          refine w_seq (fun K hK_36 => ?_)
          refine t_region ?_
          refine t_val (v := (Sl.nil : Sl).v) rfl rfl hE rfl (r_assign hE rfl) (fun a hE => ?_)
          refine t_val (v := .bool false) rfl rfl hE rfl (r_assign hE rfl) (fun a hE => ?_)
          refine t_nil ?_
          refine hK_36 _ _ ?_
          refine w_ret ?_
          exact hret _ _ _ (Sl.nil, false) _ hE hR (res_run hE rfl (RV.tmp rfl (RV.tmp rfl RV.nil))) rfl H
        · replace H := M.ite_f hb H
          refine w_skip ?_
          refine hK_30 _ _ ?_
          refine w_seq (fun K hK_37 => ?_)
          refine t_region ?_
          refine t_val (v := (x4_7 : Sl).v) rfl rfl hE rfl (r_move hE rfl) (fun a hE => ?_)
          refine t_val (v := .pointer (some ((x8_28).add 2))) rfl rfl hE rfl (r_fieldAddr hE rfl fd86_2) (fun a hE => ?_)
          obtain ⟨x62_38, qx62_38, H⟩ := H
          refine t_val (v := (x62_38 : Sl).v) rfl rfl hE rfl (r_load hE rfl sc30 qx62_38) (fun a hE => ?_)
          refine t_ex (fun x63_39 => (x63_39 : Sl).v) rfl rfl hR (M.unbind H) (fun Q H => ap_run hE rfl rfl ap30 H) (fun x63_39 a w ea hR H => ?_)
          have hE := Env.put_some hE rfl ea; clear ea
          refine t_val (v := (x63_39 : Sl).v) rfl rfl hE rfl (r_assign hE rfl) (fun a hE => ?_)
          refine t_nil ?_
          refine hK_37 _ _ ?_
          refine w_seq (fun K hK_40 => ?_)
          refine t_region ?_
          refine t_val (v := .pointer (some ((x8_28).add 0))) rfl rfl hE rfl (r_fieldAddr hE rfl fd86_0) (fun a hE => ?_)
          obtain ⟨x65_41, qx65_41, H⟩ := H
          refine t_val (v := .int .i64 x65_41) rfl rfl hE rfl (r_load hE rfl sc3 qx65_41) (fun a hE => ?_)
          refine t_val (v := .bool (x65_41 == 3)) rfl rfl hE rfl (r_bin hE rfl rfl g_int b_eql) (fun a hE => ?_)
          refine t_nil ?_
          refine hK_40 _ _ ?_
          refine w_cond (x65_41 == 3) hE rfl (fun hb => ?_) (fun hb => ?_)
          · replace H := M.ite_t hb H
            refine w_seq (fun K hK_42 => ?_)
            refine t_region ?_
            refine t_val (v := (x63_39 : Sl).v) rfl rfl hE rfl (r_move hE rfl) (fun a hE => ?_)
            refine t_call hE hR cl_wal_records rfl (S_wal_records x63_39) (M.unbind H) (fun x69_43 a w ea hR H => ?_)
            have hE := Env.put_some hE rfl ea; clear ea
            refine t_val (v := .tuple #[(x69_43.1 : Sl).v, .bool x69_43.2]) rfl rfl hE rfl (r_move hE rfl) (fun a hE => ?_)
            refine t_val (v := (x69_43.1 : Sl).v) rfl rfl hE rfl (r_extract hE rfl rfl) (fun a hE => ?_)
            refine t_val (v := .bool x69_43.2) rfl rfl hE rfl (r_extract hE rfl rfl) (fun a hE => ?_)
            refine t_val (v := (x69_43.1 : Sl).v) rfl rfl hE rfl (r_assign hE rfl) (fun a hE => ?_)
            refine t_val (v := .bool x69_43.2) rfl rfl hE rfl (r_assign hE rfl) (fun a hE => ?_)
            refine t_nil ?_
            refine hK_42 _ _ ?_
            refine w_seq_join (fun a w => Env (⟨80, []⟩ : Frm) a [(9, (x69_43.1 : Sl).v), (10, .bool x69_43.2)] ∧ Rest w0 w ∧ (wal_Log_next_j2 x69_43.1 x69_43.2).wp w.heap Q) ?_ ?_
            · rintro a w ⟨hE, hR, H⟩
              unfold wal_Log_next_j2 at H
              refine w_seq (fun K hK_46 => ?_)
              refine t_region ?_
              refine t_val (v := (x69_43.1 : Sl).v) rfl rfl hE rfl (r_move hE rfl) (fun a hE => ?_)
              refine t_val (v := .bool x69_43.2) rfl rfl hE rfl (r_move hE rfl) (fun a hE => ?_)
              refine t_val (v := (x69_43.1 : Sl).v) rfl rfl hE rfl (r_assign hE rfl) (fun a hE => ?_)
              refine t_val (v := .bool x69_43.2) rfl rfl hE rfl (r_assign hE rfl) (fun a hE => ?_)
              refine t_nil ?_
              refine hK_46 _ _ ?_
              refine w_ret ?_
              exact hret _ _ _ (x69_43.1, x69_43.2) _ hE hR (res_run hE rfl (RV.tmp rfl (RV.tmp rfl RV.nil))) rfl H
            · skip
              refine w_seq (fun K hK_47 => ?_)
              refine t_region ?_
              refine t_val (v := .bool x69_43.2) rfl rfl hE rfl (r_move hE rfl) (fun a hE => ?_)
              refine t_nil ?_
              refine hK_47 _ _ ?_
              refine w_cond x69_43.2 hE rfl (fun hb => ?_) (fun hb => ?_)
              · replace H := M.ite_t hb H
                refine t_region ?_
                refine t_val (v := .pointer x0) rfl rfl hE rfl (r_move hE rfl) (fun a hE => ?_)
                refine t_val (v := .int .i64 x5_8) rfl rfl hE rfl (r_move hE rfl) (fun a hE => ?_)
                refine t_val (v := .int .i64 (IntKind.wrap .i64 (x5_8 + 1))) rfl rfl hE rfl (r_bin hE rfl rfl g_int b_add) (fun a hE => ?_)
                obtain ⟨x76_48, qx76_48, H⟩ := H
                refine t_val (v := .pointer (some x76_48)) rfl rfl hE rfl (r_nilCheck hE (hx_eq rfl (congrArg Value.pointer qx76_48))) (fun a hE => ?_)
                refine t_val (v := .pointer (some ((x76_48).add 4))) rfl rfl hE rfl (r_fieldAddr hE rfl fd40_4) (fun a hE => ?_)
                obtain ⟨u_49, qu_49, H⟩ := H
                refine t_sth rfl rfl hE hR (r_store hE rfl rfl sz3 qu_49) (fun a w hE hR hh => ?_)
                replace H := M.at hh H; clear hh
                refine t_nil ?_
                exact ⟨hE.cut (.cons rfl (.cons rfl Subs.nil)), hR, H⟩
              · replace H := M.ite_f hb H
                refine w_skip ?_
                exact ⟨hE.cut (.cons rfl (.cons rfl Subs.nil)), hR, H⟩
          · replace H := M.ite_f hb H
            refine w_skip ?_
            refine hK_15 _ _ ?_
            refine t_region ?_
            refine t_val (v := .int .i64 x5_8) rfl rfl hE rfl (r_move hE rfl) (fun a hE => ?_)
            refine t_val (v := .int .i64 (IntKind.wrap .i64 (x5_8 + 1))) rfl rfl hE rfl (r_bin hE rfl rfl g_int b_add) (fun a hE => ?_)
            refine t_val (v := .int .i64 (IntKind.wrap .i64 (x5_8 + 1))) rfl rfl hE rfl (r_assign hE rfl) (fun a hE => ?_)
            refine t_nil ?_
            exact hY_10 (x63_39, IntKind.wrap .i64 (x5_8 + 1)) _ _ (hE.cut (.cons rfl (.cons rfl (.cons rfl Subs.nil)))) hR H
      · skip
        rcases bool_em (x37_27.2 != 0) with hb_50 | hb_50
        · replace H := M.ite_t hb_50 H
          refine reg_eq (rops := ro48_9) (by kernel_rfl) ?_
          have hT : Tab ro48_9 _ _ _ := tab_of tb48_9 rfl (by kernel_rfl)
          have hM := TabM.of tb48_9m
          refine d_start (m := 20) (fun w : World => (fun h : Heap => True) w.heap) [0, 1, 2, 3, 4, 5, 6, 7, 8, 9, 10, 11, 12, 13, 14, 15, 16, 17, 18, 19] (unb 20 0) mo hR (by kernel_rfl) (by kernel_rfl) (fun w' e => by rw [e]; exact trivial) (fun w hh hR hs => ?_)
          replace H := M.at hh H; clear hh
          refine d_pureg (i := 0) (v := .int .i64 x37_27.2) (unb 20 1) rfl rfl hT (anyM hM (by kernel_rfl)) hE rfl (wanted_none rfl) (fun w => r_move hE rfl) (fun a hE => ?_)
          refine d_pureg (i := 1) (v := .bool (x37_27.2 != 0)) (unb 20 3) rfl rfl hT (anyM hM (by kernel_rfl)) hE rfl (wanted_none rfl) (fun w => r_bin hE rfl rfl g_int b_neq) (fun a hE => ?_)
          refine d_pureg (i := 2) (v := .bool (x37_27.2 != 0)) (unb 20 7) rfl rfl hT (anyM hM (by kernel_rfl)) hE rfl (wanted_none rfl) (fun w => r_move hE rfl) (fun a hE => ?_)
          have hE := hE.reb 42 (x37_27.2 != 0) true hb_50 rfl
          replace hE := hE.cut (l' := [(0, .pointer x0), (4, (x4_7 : Sl).v), (5, .int .i64 x5_8), (8, .pointer (some x8_28)), (42, .bool true)]) (.cons rfl (.cons rfl (.cons rfl (.cons rfl (.cons rfl Subs.nil)))))
          refine d_offsM' [(3, some 43), (4, some 44), (5, some 45), (6, some 46), (7, some 47), (8, some 48)] 11 hT hM hE (by kernel_rfl) (m' := 511) (by kernel_rfl) (fun a hE => ?_)
          refine d_pureg (i := 9) (v := .bool true) (unb 20 1023) rfl rfl hT (anyM hM (by kernel_rfl)) hE rfl (wanted_none rfl) (fun w => r_pick_t hE rfl rfl) (fun a hE => ?_)
          refine d_pureg (i := 10) (v := .bool true) (unb 20 2047) rfl rfl hT (anyM hM (by kernel_rfl)) hE rfl (wanted_none rfl) (fun w => r_move hE rfl) (fun a hE => ?_)
          refine d_offsM' [(11, some 51), (12, some 52), (13, some 53), (14, some 54), (15, some 55), (16, some 56), (17, some 57), (18, some 58)] 1 hT hM hE (by kernel_rfl) (m' := 524287) (by kernel_rfl) (fun a hE => ?_)
          refine d_pureg (i := 19) (v := .bool true) (unb 20 1048575) rfl rfl hT (anyM hM (by kernel_rfl)) hE rfl (wanted_none rfl) (fun w => r_pick_t hE rfl rfl) (fun a hE => ?_)
          refine d_done hT (doneM hM (by kernel_rfl)) ?_
          exact ⟨true, hE.cut (.cons rfl (.cons rfl (.cons rfl (.cons rfl (.cons rfl Subs.nil))))), hR, H⟩
        · replace H := M.ite_f hb_50 H
          obtain ⟨x44_51, qx44_51, H⟩ := H
          refine reg_eq (rops := ro48_9) (by kernel_rfl) ?_
          have hT : Tab ro48_9 _ _ _ := tab_of tb48_9 rfl (by kernel_rfl)
          have hM := TabM.of tb48_9m
          refine d_start (m := 20) (fun w : World => (fun h : Heap => (hcell h ((x8_28).add 1) = some (.int .i64 x44_51))) w.heap) [8, 9, 10, 11, 12, 13, 14, 15, 16, 17, 18, 19] (unb 20 0) mo hR (by kernel_rfl) (by kernel_rfl) (fun w' e => by rw [e]; exact qx44_51) (fun w hh hR hs => ?_)
          replace H := M.at hh H; clear hh
          refine d_pureg (i := 0) (v := .int .i64 x37_27.2) (unb 20 1) rfl rfl hT (anyM hM (by kernel_rfl)) hE rfl (wanted_none rfl) (fun w => r_move hE rfl) (fun a hE => ?_)
          refine d_pureg (i := 1) (v := .bool (x37_27.2 != 0)) (unb 20 3) rfl rfl hT (anyM hM (by kernel_rfl)) hE rfl (wanted_none rfl) (fun w => r_bin hE rfl rfl g_int b_neq) (fun a hE => ?_)
          refine d_pureg (i := 2) (v := .bool (x37_27.2 != 0)) (unb 20 7) rfl rfl hT (anyM hM (by kernel_rfl)) hE rfl (wanted_none rfl) (fun w => r_move hE rfl) (fun a hE => ?_)
          have hE := hE.reb 42 (x37_27.2 != 0) false hb_50 rfl
          replace hE := hE.cut (l' := [(0, .pointer x0), (4, (x4_7 : Sl).v), (5, .int .i64 x5_8), (8, .pointer (some x8_28)), (42, .bool false)]) (.cons rfl (.cons rfl (.cons rfl (.cons rfl (.cons rfl Subs.nil)))))
          refine d_pureg (i := 3) (v := .pointer (some ((x8_28).add 1))) (unb 20 15) rfl rfl hT (anyM hM (by kernel_rfl)) hE rfl (wanted_of rfl hE rfl rfl rfl) (fun w => r_fieldAddr hE rfl fd86_1) (fun a hE => ?_)
          refine d_pureg (i := 5) (v := .pointer x0) (unb 20 47) rfl rfl hT (anyM hM (by kernel_rfl)) hE rfl (wanted_of rfl hE rfl rfl rfl) (fun w => r_move hE rfl) (fun a hE => ?_)
          refine d_pureg (i := 6) (v := .int .i64 x5_8) (unb 20 111) rfl rfl hT (anyM hM (by kernel_rfl)) hE rfl (wanted_of rfl hE rfl rfl rfl) (fun w => r_move hE rfl) (fun a hE => ?_)
          refine d_read (i := 4) (v := .int .i64 x44_51) (unb 20 127) rfl rfl hT (takeM hM (by kernel_rfl)) hE rfl (wanted_of rfl hE rfl rfl rfl) hs (fun w s => r_load hE rfl sc2 s) (fun a hE => ?_)
          refine d_call (i := 7) (unb 20 255) rfl rfl rfl hT (oneM hM (by kernel_rfl)) rfl hE hR (wanted_of rfl hE rfl rfl rfl) cl_wal_Log_at rfl (S_wal_Log_at x0 x5_8) (M.unbind H) (fun r h H w' e => by obtain ⟨_, sA, H⟩ := H; rw [e]; exact sA) (fun x47_52 a w ea hR H hs => ?_)
          obtain ⟨_, sA, H⟩ := H; clear sA
          have hE := Env.put_some hE rfl ea; clear ea
          rcases bool_em (x44_51 != x47_52) with hb_53 | hb_53
          · replace H := M.ite_t hb_53 H
            refine d_pureg (i := 8) (v := .bool (x44_51 != x47_52)) (unb 20 511) rfl rfl hT (anyM hM (by kernel_rfl)) hE rfl (wanted_of rfl hE rfl rfl rfl) (fun w => r_bin hE rfl rfl g_int b_neq) (fun a hE => ?_)
            refine d_pureg (i := 9) (v := .bool (x44_51 != x47_52)) (unb 20 1023) rfl rfl hT (anyM hM (by kernel_rfl)) hE rfl (wanted_none rfl) (fun w => r_pick_f hE rfl rfl) (fun a hE => ?_)
            refine d_pureg (i := 10) (v := .bool (x44_51 != x47_52)) (unb 20 2047) rfl rfl hT (anyM hM (by kernel_rfl)) hE rfl (wanted_none rfl) (fun w => r_move hE rfl) (fun a hE => ?_)
            have hE := hE.reb 50 (x44_51 != x47_52) true hb_53 rfl
            replace hE := hE.cut (l' := [(0, .pointer x0), (4, (x4_7 : Sl).v), (5, .int .i64 x5_8), (8, .pointer (some x8_28)), (50, .bool true)]) (.cons rfl (.cons rfl (.cons rfl (.cons rfl (.cons rfl Subs.nil)))))
            refine d_offsM' [(11, some 51), (12, some 52), (13, some 53), (14, some 54), (15, some 55), (16, some 56), (17, some 57), (18, some 58)] 1 hT hM hE (by kernel_rfl) (m' := 524287) (by kernel_rfl) (fun a hE => ?_)
            refine d_pureg (i := 19) (v := .bool true) (unb 20 1048575) rfl rfl hT (anyM hM (by kernel_rfl)) hE rfl (wanted_none rfl) (fun w => r_pick_t hE rfl rfl) (fun a hE => ?_)
            refine d_done hT (doneM hM (by kernel_rfl)) ?_
            exact ⟨true, hE.cut (.cons rfl (.cons rfl (.cons rfl (.cons rfl (.cons rfl Subs.nil))))), hR, H⟩
          · replace H := M.ite_f hb_53 H
            obtain ⟨x52_54, qx52_54, H⟩ := H
            rcases bool_em (x52_54 != 2) with hb_55 | hb_55
            · replace H := M.ite_t hb_55 H
              obtain ⟨x56_56, qx56_56, H⟩ := H
              refine d_switch (fun w : World => (fun h : Heap => (hcell h ((x8_28).add 0) = some (.int .i64 x52_54)) ∧ (hcell h ((x8_28).add 0) = some (.int .i64 x56_56))) w.heap) [17, 18, 19] (allInM hT hM (by kernel_rfl)) ?_
              have hs : (fun h : Heap => (hcell h ((x8_28).add 0) = some (.int .i64 x52_54)) ∧ (hcell h ((x8_28).add 0) = some (.int .i64 x56_56))) w.heap := ⟨qx52_54, qx56_56⟩
              refine d_pureg (i := 8) (v := .bool (x44_51 != x47_52)) (unb 20 511) rfl rfl hT (anyM hM (by kernel_rfl)) hE rfl (wanted_of rfl hE rfl rfl rfl) (fun w => r_bin hE rfl rfl g_int b_neq) (fun a hE => ?_)
              refine d_pureg (i := 9) (v := .bool (x44_51 != x47_52)) (unb 20 1023) rfl rfl hT (anyM hM (by kernel_rfl)) hE rfl (wanted_none rfl) (fun w => r_pick_f hE rfl rfl) (fun a hE => ?_)
              refine d_pureg (i := 10) (v := .bool (x44_51 != x47_52)) (unb 20 2047) rfl rfl hT (anyM hM (by kernel_rfl)) hE rfl (wanted_none rfl) (fun w => r_move hE rfl) (fun a hE => ?_)
              have hE := hE.reb 50 (x44_51 != x47_52) false hb_53 rfl
              replace hE := hE.cut (l' := [(0, .pointer x0), (4, (x4_7 : Sl).v), (5, .int .i64 x5_8), (8, .pointer (some x8_28)), (50, .bool false)]) (.cons rfl (.cons rfl (.cons rfl (.cons rfl (.cons rfl Subs.nil)))))
              refine d_pureg (i := 11) (v := .pointer (some ((x8_28).add 0))) (unb 20 4095) rfl rfl hT (anyM hM (by kernel_rfl)) hE rfl (wanted_of rfl hE rfl rfl rfl) (fun w => r_fieldAddr hE rfl fd86_0) (fun a hE => ?_)
              refine d_read (i := 12) (v := .int .i64 x52_54) (unb 20 8191) rfl rfl hT (takeM hM (by kernel_rfl)) hE rfl (wanted_of rfl hE rfl rfl rfl) hs (fun w s => r_load hE rfl sc3 s.1) (fun a hE => ?_)
              refine d_pureg (i := 13) (v := .bool (x52_54 != 2)) (unb 20 16383) rfl rfl hT (anyM hM (by kernel_rfl)) hE rfl (wanted_of rfl hE rfl rfl rfl) (fun w => r_bin hE rfl rfl g_int b_neq) (fun a hE => ?_)
              refine d_pureg (i := 14) (v := .bool (x52_54 != 2)) (unb 20 32767) rfl rfl hT (anyM hM (by kernel_rfl)) hE rfl (wanted_of rfl hE rfl rfl rfl) (fun w => r_move hE rfl) (fun a hE => ?_)
              have hE := hE.reb 54 (x52_54 != 2) true hb_55 rfl
              replace hE := hE.cut (l' := [(0, .pointer x0), (4, (x4_7 : Sl).v), (5, .int .i64 x5_8), (8, .pointer (some x8_28)), (50, .bool false), (54, .bool true)]) (.cons rfl (.cons rfl (.cons rfl (.cons rfl (.cons rfl (.cons rfl Subs.nil))))))
              refine d_pureg (i := 15) (v := .pointer (some ((x8_28).add 0))) (unb 20 65535) rfl rfl hT (anyM hM (by kernel_rfl)) hE rfl (wanted_of rfl hE rfl rfl rfl) (fun w => r_fieldAddr hE rfl fd86_0) (fun a hE => ?_)
              refine d_read (i := 16) (v := .int .i64 x56_56) (unb 20 131071) rfl rfl hT (takeM hM (by kernel_rfl)) hE rfl (wanted_of rfl hE rfl rfl rfl) hs (fun w s => r_load hE rfl sc3 s.2) (fun a hE => ?_)
              refine d_pureg (i := 17) (v := .bool (x56_56 != 3)) (unb 20 262143) rfl rfl hT (anyM hM (by kernel_rfl)) hE rfl (wanted_of rfl hE rfl rfl rfl) (fun w => r_bin hE rfl rfl g_int b_neq) (fun a hE => ?_)
              refine d_pureg (i := 18) (v := .bool (x56_56 != 3)) (unb 20 524287) rfl rfl hT (anyM hM (by kernel_rfl)) hE rfl (wanted_of rfl hE rfl rfl rfl) (fun w => r_pick_t hE rfl rfl) (fun a hE => ?_)
              refine d_pureg (i := 19) (v := .bool (x56_56 != 3)) (unb 20 1048575) rfl rfl hT (anyM hM (by kernel_rfl)) hE rfl (wanted_none rfl) (fun w => r_pick_f hE rfl rfl) (fun a hE => ?_)
              refine d_done hT (doneM hM (by kernel_rfl)) ?_
              exact ⟨x56_56 != 3, hE.cut (.cons rfl (.cons rfl (.cons rfl (.cons rfl (.cons rfl Subs.nil))))), hR, H⟩
            · replace H := M.ite_f hb_55 H
              refine d_switch (fun w : World => (fun h : Heap => (hcell h ((x8_28).add 0) = some (.int .i64 x52_54))) w.heap) [13, 14, 15, 16, 17, 18, 19] (allInM hT hM (by kernel_rfl)) ?_
              have hs : (fun h : Heap => (hcell h ((x8_28).add 0) = some (.int .i64 x52_54))) w.heap := qx52_54
              refine d_pureg (i := 8) (v := .bool (x44_51 != x47_52)) (unb 20 511) rfl rfl hT (anyM hM (by kernel_rfl)) hE rfl (wanted_of rfl hE rfl rfl rfl) (fun w => r_bin hE rfl rfl g_int b_neq) (fun a hE => ?_)
              refine d_pureg (i := 9) (v := .bool (x44_51 != x47_52)) (unb 20 1023) rfl rfl hT (anyM hM (by kernel_rfl)) hE rfl (wanted_none rfl) (fun w => r_pick_f hE rfl rfl) (fun a hE => ?_)
              refine d_pureg (i := 10) (v := .bool (x44_51 != x47_52)) (unb 20 2047) rfl rfl hT (anyM hM (by kernel_rfl)) hE rfl (wanted_none rfl) (fun w => r_move hE rfl) (fun a hE => ?_)
              have hE := hE.reb 50 (x44_51 != x47_52) false hb_53 rfl
              replace hE := hE.cut (l' := [(0, .pointer x0), (4, (x4_7 : Sl).v), (5, .int .i64 x5_8), (8, .pointer (some x8_28)), (50, .bool false)]) (.cons rfl (.cons rfl (.cons rfl (.cons rfl (.cons rfl Subs.nil)))))
              refine d_pureg (i := 11) (v := .pointer (some ((x8_28).add 0))) (unb 20 4095) rfl rfl hT (anyM hM (by kernel_rfl)) hE rfl (wanted_of rfl hE rfl rfl rfl) (fun w => r_fieldAddr hE rfl fd86_0) (fun a hE => ?_)
              refine d_read (i := 12) (v := .int .i64 x52_54) (unb 20 8191) rfl rfl hT (takeM hM (by kernel_rfl)) hE rfl (wanted_of rfl hE rfl rfl rfl) hs (fun w s => r_load hE rfl sc3 s) (fun a hE => ?_)
              refine d_pureg (i := 13) (v := .bool (x52_54 != 2)) (unb 20 16383) rfl rfl hT (anyM hM (by kernel_rfl)) hE rfl (wanted_of rfl hE rfl rfl rfl) (fun w => r_bin hE rfl rfl g_int b_neq) (fun a hE => ?_)
              refine d_pureg (i := 14) (v := .bool (x52_54 != 2)) (unb 20 32767) rfl rfl hT (anyM hM (by kernel_rfl)) hE rfl (wanted_of rfl hE rfl rfl rfl) (fun w => r_move hE rfl) (fun a hE => ?_)
              have hE := hE.reb 54 (x52_54 != 2) false hb_55 rfl
              replace hE := hE.cut (l' := [(0, .pointer x0), (4, (x4_7 : Sl).v), (5, .int .i64 x5_8), (8, .pointer (some x8_28)), (50, .bool false), (54, .bool false)]) (.cons rfl (.cons rfl (.cons rfl (.cons rfl (.cons rfl (.cons rfl Subs.nil))))))
              refine d_offsM' [(15, some 55), (16, some 56), (17, some 57)] 2 hT hM hE (by kernel_rfl) (m' := 262143) (by kernel_rfl) (fun a hE => ?_)
              refine d_pureg (i := 18) (v := .bool false) (unb 20 524287) rfl rfl hT (anyM hM (by kernel_rfl)) hE rfl (wanted_of rfl hE rfl rfl rfl) (fun w => r_pick_f hE rfl rfl) (fun a hE => ?_)
              refine d_pureg (i := 19) (v := .bool false) (unb 20 1048575) rfl rfl hT (anyM hM (by kernel_rfl)) hE rfl (wanted_none rfl) (fun w => r_pick_f hE rfl rfl) (fun a hE => ?_)
              refine d_done hT (doneM hM (by kernel_rfl)) ?_
              exact ⟨false, hE.cut (.cons rfl (.cons rfl (.cons rfl (.cons rfl (.cons rfl Subs.nil))))), hR, H⟩
  · replace H := M.ite_f hb H
    refine w_exit ?_
    refine Xu.same ?_
    refine hK_3 _ _ ?_
    refine w_seq (fun K hK_57 => ?_)
    refine t_region ?_
    refine t_val (v := (Sl.nil : Sl).v) rfl rfl hE rfl (r_assign hE rfl) (fun a hE => ?_)
    refine t_val (v := .bool false) rfl rfl hE rfl (r_assign hE rfl) (fun a hE => ?_)
    refine t_nil ?_
    refine hK_57 _ _ ?_
    refine w_ret ?_
    exact hret _ _ _ (Sl.nil, false) _ hE hR (res_run hE rfl (RV.tmp rfl (RV.tmp rfl RV.nil))) rfl H

/-- ramble/wal.Open -/
def wal_Open_l1 (c7_23 : Option Addr) (self1 : (Sl) → M (Option Addr × Sl × Sl × Int)) : (Sl) → M (Option Addr × Sl × Sl × Int) := fun s => match s with
  | x8_22 => do
    let x37_26 ← wal_Log_next c7_23
    M.ite (!x37_26.2) (do
      let x44_30 ← nilP c7_23
      let x46_31 ← ldL ((x44_30).add 2)
      let x47_32 ← slices_Clone_slbyte_byte x46_31
      M.pure (c7_23, x47_32, x8_22, 0)
      ) (do
      let x51_33 ← bdL ty_sl_sl_uint8 1 #[(x37_26.1 : Sl).v]
      let x52_34 ← apL ty_sl_sl_uint8 1 24 (#[.slice none 0 0] : Array Value) x8_22 x51_33
      self1 x52_34
      )
def wal_Open_j1 (x7_15 : Option Addr) : M (Option Addr × Sl × Sl × Int) := do
  let x31_18 ← nilP x7_15
  let x33_19 ← ldI .i64 ((x31_18).add 3)
  M.ite (x33_19 == 0) (do
    M.pure ((none : Option Addr), Sl.nil, Sl.nil, 60)
    ) (do
    M.loop (wal_Open_l1 x7_15) Sl.nil
    )
theorem tb14_7 : tabAt Go.Proofs.Try.f14 7 [[], [0], [1], [], [3], [4], [5], [2, 6]] [[], [0], [1], [], [3], [4], [5], [2, 6]] [[], [0], [0, 1], [], [3], [3, 4], [3, 4, 5], [0, 1, 2, 3, 4, 5, 6]] = true := by kernel_rfl
def wal_Open (x0 : Option Addr) : M (Option Addr × Sl × Sl × Int) := do
  let x13_4 ← disk_Disk_Sectors x0
  M.ite (x13_4 == 0) (do
    M.pure ((none : Option Addr), Sl.nil, Sl.nil, 2)
    ) (do
    let x17_7 ← disk_Disk_Down x0
    M.ite x17_7 (do
      M.pure ((none : Option Addr), Sl.nil, Sl.nil, 9)
      ) (do
      let x19_10 ← wal_heads x0
      let x6_11 ← mkB ty_2_wal_Log (#[.pointer none, .int .i64 0, .slice none 0 0, .int .i64 0, .int .i64 0, .bool false, .bool false, .pointer none, .int .i64 0, .slice none 0 0, .int .i64 0, .int .i64 0, .bool false, .bool false] : Array Value)
      M.need (x19_10.size = 14)
      stG x6_11 x19_10
      let x20_14 ← ixA x6_11 2 0 7
      let x21_36 ← ixA x6_11 2 1 7
      let x25_37 ← nilP (some x20_14)
      let x23_38 ← ldI .i64 ((x21_36).add 3)
      let x27_39 ← ldI .i64 ((x25_37).add 3)
      M.ite (decide (x23_38 > x27_39)) (do
        let x29_40 ← ixA x6_11 2 1 7
        wal_Open_j1 (some x29_40)
        ) (do
        wal_Open_j1 (some x20_14)
        )
      )
    )
theorem S_wal_Open (x0 : Option Addr) : Sound Go.Proofs.Try.prog 14 #[.pointer x0] (fun (r : Option Addr × Sl × Sl × Int) => .tuple #[.pointer r.1, (r.2.1 : Sl).v, (r.2.2.1 : Sl).v, .int .i64 r.2.2.2]) (wal_Open x0) := by
  refine sound_of [(0, .pointer x0)] Go.Proofs.Try.func14 rfl rfl (Nat.le_of_ble_eq_true rfl) (args_of ⟨rfl, trivial⟩) (fun w0 w Q R a hret hE hR H => ?_)
  unfold wal_Open at H
  refine w_seq (fun K hK_1 => ?_)
  refine t_region ?_
  refine t_val (v := .pointer (none : Option Addr)) rfl rfl hE rfl (r_assign hE rfl) (fun a hE => ?_)
  refine t_val (v := (Sl.nil : Sl).v) rfl rfl hE rfl (r_assign hE rfl) (fun a hE => ?_)
  refine t_val (v := (Sl.nil : Sl).v) rfl rfl hE rfl (r_assign hE rfl) (fun a hE => ?_)
  refine t_val (v := .int .i64 0) rfl rfl hE rfl (r_assign hE rfl) (fun a hE => ?_)
  refine t_nil ?_
  refine hK_1 _ _ ?_
  refine w_seq (fun K hK_2 => ?_)
  refine w_block ?_
  refine w_seq (fun K hK_3 => ?_)
  refine t_region ?_
  refine t_val (v := .pointer x0) rfl rfl hE rfl (r_move hE rfl) (fun a hE => ?_)
  refine t_call hE hR cl_disk_Disk_Sectors rfl (S_disk_Disk_Sectors x0) (M.unbind H) (fun x13_4 a w ea hR H => ?_)
  have hE := Env.put_some hE rfl ea; clear ea
  refine t_val (v := .bool (x13_4 == 0)) rfl rfl hE rfl (r_bin hE rfl rfl g_int b_eql) (fun a hE => ?_)
  refine t_val (v := .bool (x13_4 == 0)) rfl rfl hE rfl (r_assign hE rfl) (fun a hE => ?_)
  refine t_nil ?_
  refine hK_3 _ _ ?_
  refine w_cond (x13_4 == 0) hE rfl (fun hb => ?_) (fun hb => ?_)
  · replace H := M.ite_t hb H
    refine w_seq (fun K hK_5 => ?_)
    refine t_region ?_
    refine t_val (v := .pointer (none : Option Addr)) rfl rfl hE rfl (r_assign hE rfl) (fun a hE => ?_)
    refine t_val (v := (Sl.nil : Sl).v) rfl rfl hE rfl (r_assign hE rfl) (fun a hE => ?_)
    refine t_val (v := (Sl.nil : Sl).v) rfl rfl hE rfl (r_assign hE rfl) (fun a hE => ?_)
    refine t_val (v := .int .i64 2) rfl rfl hE rfl (r_assign hE rfl) (fun a hE => ?_)
    refine t_nil ?_
    refine hK_5 _ _ ?_
    refine w_ret ?_
    exact hret _ _ _ ((none : Option Addr), Sl.nil, Sl.nil, 2) _ hE hR (res_run hE rfl (RV.tmp rfl (RV.tmp rfl (RV.tmp rfl (RV.tmp rfl RV.nil))))) rfl H
  · replace H := M.ite_f hb H
    refine w_seq (fun K hK_6 => ?_)
    refine t_region ?_
    refine t_val (v := .pointer x0) rfl rfl hE rfl (r_move hE rfl) (fun a hE => ?_)
    refine t_call hE hR cl_disk_Disk_Down rfl (S_disk_Disk_Down x0) (M.unbind H) (fun x17_7 a w ea hR H => ?_)
    have hE := Env.put_some hE rfl ea; clear ea
    refine t_val (v := .bool x17_7) rfl rfl hE rfl (r_assign hE rfl) (fun a hE => ?_)
    refine t_nil ?_
    refine hK_6 _ _ ?_
    refine w_cond x17_7 hE rfl (fun hb => ?_) (fun hb => ?_)
    · replace H := M.ite_t hb H
      refine w_seq (fun K hK_8 => ?_)
      refine t_region ?_
      refine t_val (v := .pointer (none : Option Addr)) rfl rfl hE rfl (r_assign hE rfl) (fun a hE => ?_)
      refine t_val (v := (Sl.nil : Sl).v) rfl rfl hE rfl (r_assign hE rfl) (fun a hE => ?_)
      refine t_val (v := (Sl.nil : Sl).v) rfl rfl hE rfl (r_assign hE rfl) (fun a hE => ?_)
      refine t_val (v := .int .i64 9) rfl rfl hE rfl (r_assign hE rfl) (fun a hE => ?_)
      refine t_nil ?_
      refine hK_8 _ _ ?_
      refine w_ret ?_
      exact hret _ _ _ ((none : Option Addr), Sl.nil, Sl.nil, 9) _ hE hR (res_run hE rfl (RV.tmp rfl (RV.tmp rfl (RV.tmp rfl (RV.tmp rfl RV.nil))))) rfl H
    · replace H := M.ite_f hb H
      refine w_skip ?_
      refine hK_2 _ _ ?_
      refine w_seq (fun K hK_9 => ?_)
      refine t_region ?_
      refine t_val (v := .pointer x0) rfl rfl hE rfl (r_move hE rfl) (fun a hE => ?_)
      refine t_call hE hR cl_wal_heads rfl (S_wal_heads x0) (M.unbind H) (fun x19_10 a w ea hR H => ?_)
      have hE := Env.put_some hE rfl ea; clear ea
      obtain ⟨x6_11, qx6_11, H⟩ := H
      refine t_valh (v := .pointer (some x6_11)) rfl rfl hE rfl hR (r_alloc zr89 qx6_11) (fun a w hE hR hh => ?_)
      replace H := M.at hh H; clear hh
      obtain ⟨qz, H⟩ := H
      obtain ⟨u_12, qu_12, H⟩ := H
      refine t_sth rfl rfl hE hR (r_storeG hE rfl rfl sz89 qz qu_12) (fun a w hE hR hh => ?_)
      replace H := M.at hh H; clear hh
      refine t_nil ?_
      refine hK_9 _ _ ?_
      refine w_seq (fun K hK_13 => ?_)
      refine t_region ?_
      obtain ⟨x20_14, qx20_14, H⟩ := H
      refine t_val (v := .pointer (some x20_14)) rfl rfl hE rfl (r_indexAddrA hE rfl rfl un89 sz40 qx20_14) (fun a hE => ?_)
      refine t_val (v := .pointer (some x20_14)) rfl rfl hE rfl (r_assign hE rfl) (fun a hE => ?_)
      refine t_nil ?_
      refine hK_13 _ _ ?_
      refine w_seq_join (fun a w => ∃ (x7_15 : Option Addr), Env (⟨53, []⟩ : Frm) a [(7, .pointer x7_15)] ∧ Rest w0 w ∧ (wal_Open_j1 x7_15).wp w.heap Q) ?_ ?_
      · rintro a w ⟨x7_15, hE, hR, H⟩
        unfold wal_Open_j1 at H
        refine w_seq (fun K hK_16 => ?_)
        refine w_seq (fun K hK_17 => ?_)
        refine t_region ?_
        refine t_val (v := .pointer x7_15) rfl rfl hE rfl (r_move hE rfl) (fun a hE => ?_)
        obtain ⟨x31_18, qx31_18, H⟩ := H
        refine t_val (v := .pointer (some x31_18)) rfl rfl hE rfl (r_nilCheck hE (hx_eq rfl (congrArg Value.pointer qx31_18))) (fun a hE => ?_)
        refine t_val (v := .pointer (some ((x31_18).add 3))) rfl rfl hE rfl (r_fieldAddr hE rfl fd40_3) (fun a hE => ?_)
        obtain ⟨x33_19, qx33_19, H⟩ := H
        refine t_val (v := .int .i64 x33_19) rfl rfl hE rfl (r_load hE rfl sc2 qx33_19) (fun a hE => ?_)
        refine t_val (v := .bool (x33_19 == 0)) rfl rfl hE rfl (r_bin hE rfl rfl g_int b_eql) (fun a hE => ?_)
        refine t_nil ?_
        refine hK_17 _ _ ?_
        refine w_cond (x33_19 == 0) hE rfl (fun hb => ?_) (fun hb => ?_)
        · replace H := M.ite_t hb H
          refine w_seq (fun K hK_20 => ?_)
          refine t_region ?_
          refine t_val (v := .pointer (none : Option Addr)) rfl rfl hE rfl (r_assign hE rfl) (fun a hE => ?_)
          refine t_val (v := (Sl.nil : Sl).v) rfl rfl hE rfl (r_assign hE rfl) (fun a hE => ?_)
          refine t_val (v := (Sl.nil : Sl).v) rfl rfl hE rfl (r_assign hE rfl) (fun a hE => ?_)
          refine t_val (v := .int .i64 60) rfl rfl hE rfl (r_assign hE rfl) (fun a hE => ?_)
          refine t_nil ?_
          refine hK_20 _ _ ?_
          refine w_ret ?_
          exact hret _ _ _ ((none : Option Addr), Sl.nil, Sl.nil, 60) _ hE hR (res_run hE rfl (RV.tmp rfl (RV.tmp rfl (RV.tmp rfl (RV.tmp rfl RV.nil))))) rfl H
        · replace H := M.ite_f hb H
          refine w_skip ?_
          refine hK_16 _ _ ?_
          refine w_seq (fun K hK_21 => ?_)
          refine t_region ?_
          refine t_val (v := (Sl.nil : Sl).v) rfl rfl hE rfl (r_assign hE rfl) (fun a hE => ?_)
          refine t_nil ?_
          refine hK_21 _ _ ?_
          refine w_block ?_
          refine l_loop (fun (s : Sl) => (⟨53, []⟩ : Frm)) (fun (s : Sl) => [(7, .pointer x7_15), (8, (s : Sl).v)]) H (hE.cut (.cons rfl (.cons rfl Subs.nil))) hR (fun Y self1 hY_24 x8_22 a w hE hR H => ?_)
          replace hE : Env (⟨53, []⟩ : Frm) a [(7, .pointer x7_15), (8, (x8_22 : Sl).v)] := hE
          replace H : (wal_Open_l1 x7_15 self1 x8_22).wp w.heap Q := H
          unfold wal_Open_l1 at H
          refine w_block ?_
          refine w_seq (fun K hK_25 => ?_)
          refine t_region ?_
          refine t_val (v := .pointer x7_15) rfl rfl hE rfl (r_move hE rfl) (fun a hE => ?_)
          refine t_call hE hR cl_wal_Log_next rfl (S_wal_Log_next x7_15) (M.unbind H) (fun x37_26 a w ea hR H => ?_)
          have hE := Env.put_some hE rfl ea; clear ea
          refine t_val (v := .tuple #[(x37_26.1 : Sl).v, .bool x37_26.2]) rfl rfl hE rfl (r_move hE rfl) (fun a hE => ?_)
          refine t_val (v := (x37_26.1 : Sl).v) rfl rfl hE rfl (r_extract hE rfl rfl) (fun a hE => ?_)
          refine t_val (v := .bool x37_26.2) rfl rfl hE rfl (r_extract hE rfl rfl) (fun a hE => ?_)
          refine t_val (v := (x37_26.1 : Sl).v) rfl rfl hE rfl (r_assign hE rfl) (fun a hE => ?_)
          refine t_val (v := .bool x37_26.2) rfl rfl hE rfl (r_assign hE rfl) (fun a hE => ?_)
          refine t_nil ?_
          refine hK_25 _ _ ?_
          refine w_seq (fun K hK_27 => ?_)
          refine w_seq (fun K hK_28 => ?_)
          refine t_region ?_
          refine t_val (v := .bool x37_26.2) rfl rfl hE rfl (r_move hE rfl) (fun a hE => ?_)
          refine t_val (v := .bool (!x37_26.2)) rfl rfl hE rfl (r_un hE rfl u_not) (fun a hE => ?_)
          refine t_nil ?_
          refine hK_28 _ _ ?_
          refine w_cond (!x37_26.2) hE rfl (fun hb => ?_) (fun hb => ?_)
          · replace H := M.ite_t hb H
            refine w_seq (fun K hK_29 => ?_)
            refine t_region ?_
            refine t_val (v := .pointer x7_15) rfl rfl hE rfl (r_move hE rfl) (fun a hE => ?_)
            refine t_val (v := .pointer x7_15) rfl rfl hE rfl (r_move hE rfl) (fun a hE => ?_)
            obtain ⟨x44_30, qx44_30, H⟩ := H
            refine t_val (v := .pointer (some x44_30)) rfl rfl hE rfl (r_nilCheck hE (hx_eq rfl (congrArg Value.pointer qx44_30))) (fun a hE => ?_)
            refine t_val (v := .pointer (some ((x44_30).add 2))) rfl rfl hE rfl (r_fieldAddr hE rfl fd40_2) (fun a hE => ?_)
            obtain ⟨x46_31, qx46_31, H⟩ := H
            refine t_val (v := (x46_31 : Sl).v) rfl rfl hE rfl (r_load hE rfl sc30 qx46_31) (fun a hE => ?_)
            refine t_call hE hR cl_slices_Clone_slbyte_byte rfl (S_slices_Clone_slbyte_byte x46_31) (M.unbind H) (fun x47_32 a w ea hR H => ?_)
            have hE := Env.put_some hE rfl ea; clear ea
            refine t_val (v := (x8_22 : Sl).v) rfl rfl hE rfl (r_move hE rfl) (fun a hE => ?_)
            refine t_val (v := .pointer x7_15) rfl rfl hE rfl (r_assign hE rfl) (fun a hE => ?_)
            refine t_val (v := (x47_32 : Sl).v) rfl rfl hE rfl (r_assign hE rfl) (fun a hE => ?_)
            refine t_val (v := (x8_22 : Sl).v) rfl rfl hE rfl (r_assign hE rfl) (fun a hE => ?_)
            refine t_val (v := .int .i64 0) rfl rfl hE rfl (r_assign hE rfl) (fun a hE => ?_)
            refine t_nil ?_
            refine hK_29 _ _ ?_
            refine w_ret ?_
            exact hret _ _ _ (x7_15, x47_32, x8_22, 0) _ hE hR (res_run hE rfl (RV.tmp rfl (RV.tmp rfl (RV.tmp rfl (RV.tmp rfl RV.nil))))) rfl H
          · replace H := M.ite_f hb H
            refine w_skip ?_
            refine hK_27 _ _ ?_
            refine t_region ?_
            refine t_val (v := (x8_22 : Sl).v) rfl rfl hE rfl (r_move hE rfl) (fun a hE => ?_)
            refine t_val (v := (x37_26.1 : Sl).v) rfl rfl hE rfl (r_move hE rfl) (fun a hE => ?_)
            obtain ⟨x51_33, qx51_33, H⟩ := H
            refine t_valh (v := (x51_33 : Sl).v) rfl rfl hE rfl hR (r_buildL (cells := #[(x37_26.1 : Sl).v]) hE rfl un22 sz32 zr32 rfl rfl qx51_33) (fun a w hE hR hh => ?_)
            replace H := M.at hh H; clear hh
            refine t_ex (fun x52_34 => (x52_34 : Sl).v) rfl rfl hR (M.unbind H) (fun Q H => ap_run hE rfl rfl ap22 H) (fun x52_34 a w ea hR H => ?_)
            have hE := Env.put_some hE rfl ea; clear ea
            refine t_val (v := (x52_34 : Sl).v) rfl rfl hE rfl (r_assign hE rfl) (fun a hE => ?_)
            refine t_nil ?_
            exact hY_24 x52_34 _ _ (hE.cut (.cons rfl (.cons rfl Subs.nil))) hR H
      · skip
        refine w_seq (fun K hK_35 => ?_)
        obtain ⟨x21_36, qx21_36, H⟩ := H
        obtain ⟨x25_37, qx25_37, H⟩ := H
        obtain ⟨x23_38, qx23_38, H⟩ := H
        obtain ⟨x27_39, qx27_39, H⟩ := H
        have hT := tab_of tb14_7 rfl rfl
        refine d_start (fun w : World => (fun h : Heap => (hcell h ((x21_36).add 3) = some (.int .i64 x23_38)) ∧ (hcell h ((x25_37).add 3) = some (.int .i64 x27_39))) w.heap) [7] #[false, false, false, false, false, false, false, false] mo hR rfl rfl (fun w' e => by rw [e]; exact ⟨qx23_38, qx27_39⟩) (fun w hh hR hs => ?_)
        replace H := M.at hh H; clear hh
        refine d_pureg (i := 0) (v := .pointer (some x21_36)) #[true, false, false, false, false, false, false, false] rfl rfl hT (by kernel_rfl) hE rfl (wanted_none rfl) (fun w => r_indexAddrA hE rfl rfl un89 sz40 qx21_36) (fun a hE => ?_)
        refine d_pureg (i := 1) (v := .pointer (some ((x21_36).add 3))) #[true, true, false, false, false, false, false, false] rfl rfl hT (by kernel_rfl) hE rfl (wanted_none rfl) (fun w => r_fieldAddr hE rfl fd40_3) (fun a hE => ?_)
        refine d_pureg (i := 3) (v := .pointer (some x20_14)) #[true, true, false, true, false, false, false, false] rfl rfl hT (by kernel_rfl) hE rfl (wanted_none rfl) (fun w => r_move hE rfl) (fun a hE => ?_)
        refine d_pureg (i := 4) (v := .pointer (some x25_37)) #[true, true, false, true, true, false, false, false] rfl rfl hT (by kernel_rfl) hE rfl (wanted_none rfl) (fun w => r_nilCheck hE (hx_eq rfl (congrArg Value.pointer qx25_37))) (fun a hE => ?_)
        refine d_pureg (i := 5) (v := .pointer (some ((x25_37).add 3))) #[true, true, false, true, true, true, false, false] rfl rfl hT (by kernel_rfl) hE rfl (wanted_none rfl) (fun w => r_fieldAddr hE rfl fd40_3) (fun a hE => ?_)
        refine d_read (i := 2) (v := .int .i64 x23_38) #[true, true, true, true, true, true, false, false] rfl rfl hT (by kernel_rfl) hE rfl (wanted_none rfl) hs (fun w s => r_load hE rfl sc2 s.1) (fun a hE => ?_)
        refine d_read (i := 6) (v := .int .i64 x27_39) #[true, true, true, true, true, true, true, false] rfl rfl hT (by kernel_rfl) hE rfl (wanted_none rfl) hs (fun w s => r_load hE rfl sc2 s.2) (fun a hE => ?_)
        refine d_pureg (i := 7) (v := .bool (decide (x23_38 > x27_39))) #[true, true, true, true, true, true, true, true] rfl rfl hT (by kernel_rfl) hE rfl (wanted_none rfl) (fun w => r_bin hE rfl rfl g_int b_gtr) (fun a hE => ?_)
        refine d_done hT (by kernel_rfl) ?_
        refine hK_35 _ _ ?_
        refine w_cond (decide (x23_38 > x27_39)) hE rfl (fun hb => ?_) (fun hb => ?_)
        · replace H := M.ite_t hb H
          refine t_region ?_
          obtain ⟨x29_40, qx29_40, H⟩ := H
          refine t_val (v := .pointer (some x29_40)) rfl rfl hE rfl (r_indexAddrA hE rfl rfl un89 sz40 qx29_40) (fun a hE => ?_)
          refine t_val (v := .pointer (some x29_40)) rfl rfl hE rfl (r_assign hE rfl) (fun a hE => ?_)
          refine t_nil ?_
          exact ⟨some x29_40, hE.cut (.cons rfl Subs.nil), hR, H⟩
        · replace H := M.ite_f hb H
          refine w_skip ?_
          exact ⟨some x20_14, hE.cut (.cons rfl Subs.nil), hR, H⟩

/-- (*ramble/wal.Log).Epoch -/
def wal_Log_Epoch (x0 : Option Addr) : M (Int) := do
  M.ite ((x0).isNone) (do
    M.pure 0
    ) (do
    let x6_6 ← nilP x0
    let x8_7 ← ldI .i64 ((x6_6).add 3)
    M.pure x8_7
    )
theorem S_wal_Log_Epoch (x0 : Option Addr) : Sound Go.Proofs.Try.prog 16 #[.pointer x0] (fun (r : Int) => .int .i64 r) (wal_Log_Epoch x0) := by
  refine sound_of [(0, .pointer x0)] Go.Proofs.Try.func16 rfl rfl (Nat.le_of_ble_eq_true rfl) (args_of ⟨rfl, trivial⟩) (fun w0 w Q R a hret hE hR H => ?_)
  unfold wal_Log_Epoch at H
  refine w_seq (fun K hK_1 => ?_)
  refine t_region ?_
  refine t_val (v := .int .i64 0) rfl rfl hE rfl (r_assign hE rfl) (fun a hE => ?_)
  refine t_nil ?_
  refine hK_1 _ _ ?_
  refine w_seq (fun K hK_2 => ?_)
  refine w_seq (fun K hK_3 => ?_)
  refine t_region ?_
  refine t_val (v := .pointer x0) rfl rfl hE rfl (r_move hE rfl) (fun a hE => ?_)
  refine t_val (v := .bool ((x0).isNone)) rfl rfl hE rfl (r_bin hE rfl rfl g_ptr (b_eqlP un27)) (fun a hE => ?_)
  refine t_nil ?_
  refine hK_3 _ _ ?_
  refine w_cond ((x0).isNone) hE rfl (fun hb => ?_) (fun hb => ?_)
  · replace H := M.ite_t hb H
    refine w_seq (fun K hK_4 => ?_)
    refine t_region ?_
    refine t_val (v := .int .i64 0) rfl rfl hE rfl (r_assign hE rfl) (fun a hE => ?_)
    refine t_nil ?_
    refine hK_4 _ _ ?_
    refine w_ret ?_
    exact hret _ _ _ 0 _ hE hR (res_run hE rfl (RV.tmp rfl RV.nil)) rfl H
  · replace H := M.ite_f hb H
    refine w_skip ?_
    refine hK_2 _ _ ?_
    refine w_seq (fun K hK_5 => ?_)
    refine t_region ?_
    refine t_val (v := .pointer x0) rfl rfl hE rfl (r_move hE rfl) (fun a hE => ?_)
    obtain ⟨x6_6, qx6_6, H⟩ := H
    refine t_val (v := .pointer (some x6_6)) rfl rfl hE rfl (r_nilCheck hE (hx_eq rfl (congrArg Value.pointer qx6_6))) (fun a hE => ?_)
    refine t_val (v := .pointer (some ((x6_6).add 3))) rfl rfl hE rfl (r_fieldAddr hE rfl fd40_3) (fun a hE => ?_)
    obtain ⟨x8_7, qx8_7, H⟩ := H
    refine t_val (v := .int .i64 x8_7) rfl rfl hE rfl (r_load hE rfl sc2 qx8_7) (fun a hE => ?_)
    refine t_val (v := .int .i64 x8_7) rfl rfl hE rfl (r_assign hE rfl) (fun a hE => ?_)
    refine t_nil ?_
    refine hK_5 _ _ ?_
    refine w_ret ?_
    exact hret _ _ _ x8_7 _ hE hR (res_run hE rfl (RV.tmp rfl RV.nil)) rfl H

/-- (*ramble/wal.Log).Used -/
def wal_Log_Used (x0 : Option Addr) : M (Int) := do
  M.ite ((x0).isNone) (do
    M.pure 0
    ) (do
    let x6_6 ← nilP x0
    let x8_7 ← ldI .i64 ((x6_6).add 4)
    M.pure x8_7
    )
theorem S_wal_Log_Used (x0 : Option Addr) : Sound Go.Proofs.Try.prog 18 #[.pointer x0] (fun (r : Int) => .int .i64 r) (wal_Log_Used x0) := by
  refine sound_of [(0, .pointer x0)] Go.Proofs.Try.func18 rfl rfl (Nat.le_of_ble_eq_true rfl) (args_of ⟨rfl, trivial⟩) (fun w0 w Q R a hret hE hR H => ?_)
  unfold wal_Log_Used at H
  refine w_seq (fun K hK_1 => ?_)
  refine t_region ?_
  refine t_val (v := .int .i64 0) rfl rfl hE rfl (r_assign hE rfl) (fun a hE => ?_)
  refine t_nil ?_
  refine hK_1 _ _ ?_
  refine w_seq (fun K hK_2 => ?_)
  refine w_seq (fun K hK_3 => ?_)
  refine t_region ?_
  refine t_val (v := .pointer x0) rfl rfl hE rfl (r_move hE rfl) (fun a hE => ?_)
  refine t_val (v := .bool ((x0).isNone)) rfl rfl hE rfl (r_bin hE rfl rfl g_ptr (b_eqlP un27)) (fun a hE => ?_)
  refine t_nil ?_
  refine hK_3 _ _ ?_
  refine w_cond ((x0).isNone) hE rfl (fun hb => ?_) (fun hb => ?_)
  · replace H := M.ite_t hb H
    refine w_seq (fun K hK_4 => ?_)
    refine t_region ?_
    refine t_val (v := .int .i64 0) rfl rfl hE rfl (r_assign hE rfl) (fun a hE => ?_)
    refine t_nil ?_
    refine hK_4 _ _ ?_
    refine w_ret ?_
    exact hret _ _ _ 0 _ hE hR (res_run hE rfl (RV.tmp rfl RV.nil)) rfl H
  · replace H := M.ite_f hb H
    refine w_skip ?_
    refine hK_2 _ _ ?_
    refine w_seq (fun K hK_5 => ?_)
    refine t_region ?_
    refine t_val (v := .pointer x0) rfl rfl hE rfl (r_move hE rfl) (fun a hE => ?_)
    obtain ⟨x6_6, qx6_6, H⟩ := H
    refine t_val (v := .pointer (some x6_6)) rfl rfl hE rfl (r_nilCheck hE (hx_eq rfl (congrArg Value.pointer qx6_6))) (fun a hE => ?_)
    refine t_val (v := .pointer (some ((x6_6).add 4))) rfl rfl hE rfl (r_fieldAddr hE rfl fd40_4) (fun a hE => ?_)
    obtain ⟨x8_7, qx8_7, H⟩ := H
    refine t_val (v := .int .i64 x8_7) rfl rfl hE rfl (r_load hE rfl sc3 qx8_7) (fun a hE => ?_)
    refine t_val (v := .int .i64 x8_7) rfl rfl hE rfl (r_assign hE rfl) (fun a hE => ?_)
    refine t_nil ?_
    refine hK_5 _ _ ?_
    refine w_ret ?_
    exact hret _ _ _ x8_7 _ hE hR (res_run hE rfl (RV.tmp rfl RV.nil)) rfl H

/-- bytes.Equal -/
def bytes_Equal (x0 : Sl) (x1 : Sl) : M (Bool) := do
  let x6_3 ← b2s x0
  let x8_4 ← b2s x1
  M.pure (sEq x6_3 x8_4)
theorem S_bytes_Equal (x0 : Sl) (x1 : Sl) : Sound Go.Proofs.Try.prog 40 #[(x0 : Sl).v, (x1 : Sl).v] (fun (r : Bool) => .bool r) (bytes_Equal x0 x1) := by
  refine sound_of [(0, (x0 : Sl).v), (1, (x1 : Sl).v)] Go.Proofs.Try.func40 rfl rfl (Nat.le_of_ble_eq_true rfl) (args_of ⟨rfl, rfl, trivial⟩) (fun w0 w Q R a hret hE hR H => ?_)
  unfold bytes_Equal at H
  refine w_seq (fun K hK_1 => ?_)
  refine t_region ?_
  refine t_val (v := .bool false) rfl rfl hE rfl (r_assign hE rfl) (fun a hE => ?_)
  refine t_nil ?_
  refine hK_1 _ _ ?_
  refine w_seq (fun K hK_2 => ?_)
  refine t_region ?_
  refine t_val (v := (x0 : Sl).v) rfl rfl hE rfl (r_move hE rfl) (fun a hE => ?_)
  obtain ⟨x6_3, qx6_3, H⟩ := H
  refine t_val (v := .string x6_3) rfl rfl hE rfl (b2s_run hE rfl un30 un9 un5 qx6_3) (fun a hE => ?_)
  refine t_val (v := (x1 : Sl).v) rfl rfl hE rfl (r_move hE rfl) (fun a hE => ?_)
  obtain ⟨x8_4, qx8_4, H⟩ := H
  refine t_val (v := .string x8_4) rfl rfl hE rfl (b2s_run hE rfl un30 un9 un5 qx8_4) (fun a hE => ?_)
  refine t_val (v := .bool (sEq x6_3 x8_4)) rfl rfl hE rfl (r_bin hE rfl rfl g_str b_eqlS) (fun a hE => ?_)
  refine t_val (v := .bool (sEq x6_3 x8_4)) rfl rfl hE rfl (r_assign hE rfl) (fun a hE => ?_)
  refine t_nil ?_
  refine hK_2 _ _ ?_
  refine w_ret ?_
  exact hret _ _ _ (sEq x6_3 x8_4) _ hE hR (res_run hE rfl (RV.tmp rfl RV.nil)) rfl H

end Gx
namespace Gx
open Go
set_option linter.unusedVariables false
set_option maxRecDepth 100000
/-- ramble/ramblelaw06.begun -/
def ramblelaw06_begun  : M (Bool) := do
  let x9_3 ← disk_New 12
  let x14_5 ← bdL ty_uint8 1 #[.int .u8 5]
  let x15_6 ← wal_Format x9_3.1 8 x14_5
  let x23_9 ← M.ite (x9_3.2 != 0) (do
    M.pure true
    ) (do
    M.pure (x15_6.2 != 0)
    )
  let x27_10 ← M.ite x23_9 (do
    M.pure true
    ) (do
    M.pure ((x15_6.1).isNone)
    )
  let x37_11 ← M.ite x27_10 (do
    M.pure true
    ) (do
    let x30_12 ← bdL ty_uint8 1 #[.int .u8 97]
    let x31_13 ← mrk x30_12
    let x32_14 ← bdL ty_uint8 2 #[.int .u8 98, .int .u8 99]
    let x33_15 ← mrk x32_14
    let x34_16 ← bdL ty_sl_uint8 2 #[(x31_13 : Sl).v, (x33_15 : Sl).v]
    let x35_17 ← wal_Log_Append x15_6.1 x34_16
    M.pure (x35_17 != 0)
    )
  M.ite x37_11 (do
    M.pure false
    ) (do
    let x40_20 ← wal_Open x9_3.1
    let x50_22 ← M.ite (x40_20.2.2.2 == 0) (do
      M.pure (!(x40_20.1).isNone)
      ) (do
      M.pure false
      )
    let x55_23 ← M.ite x50_22 (do
      let x53_24 ← bdL ty_uint8 1 #[.int .u8 5]
      let x54_25 ← bytes_Equal x40_20.2.1 x53_24
      M.pure x54_25
      ) (do
      M.pure false
      )
    let x60_26 ← M.ite x55_23 (do
      M.pure ((x40_20.2.2.1.len : Int) == 1)
      ) (do
      M.pure false
      )
    let x67_27 ← M.ite x60_26 (do
      let x63_28 ← ixL x40_20.2.2.1 0 1
      let x64_29 ← ldL x63_28
      M.pure ((x64_29.len : Int) == 2)
      ) (do
      M.pure false
      )
    let x76_30 ← M.ite x67_27 (do
      let x70_31 ← ixL x40_20.2.2.1 0 1
      let x71_32 ← ldL x70_31
      let x72_33 ← ixL x71_32 1 1
      let x73_34 ← ldL x72_33
      let x74_35 ← b2s x73_34
      M.pure (sEq x74_35 (⟨#[98, 99]⟩ : ByteArray))
      ) (do
      M.pure false
      )
    let x82_36 ← M.ite x76_30 (do
      let x79_37 ← bdL ty_sl_uint8 1 #[(Sl.nil : Sl).v]
      let x80_38 ← wal_Log_Append x40_20.1 x79_37
      M.pure (x80_38 == 61)
      ) (do
      M.pure false
      )
    let x87_39 ← M.ite x82_36 (do
      let x85_40 ← wal_Log_Reset x40_20.1
      M.pure (x85_40 == 0)
      ) (do
      M.pure false
      )
    let x92_41 ← M.ite x87_39 (do
      let x90_42 ← wal_Log_Epoch x40_20.1
      M.pure (x90_42 == 2)
      ) (do
      M.pure false
      )
    let x97_43 ← M.ite x92_41 (do
      let x95_44 ← wal_Log_Used x40_20.1
      M.pure (x95_44 == 0)
      ) (do
      M.pure false
      )
    M.pure x97_43
    )
theorem S_ramblelaw06_begun  : Sound Go.Proofs.Try.prog 11 #[] (fun (r : Bool) => .bool r) (ramblelaw06_begun ) := by
  refine sound_of [] Go.Proofs.Try.func11 rfl rfl (Nat.le_of_ble_eq_true rfl) (args_of trivial) (fun w0 w Q R a hret hE hR H => ?_)
  unfold ramblelaw06_begun at H
  refine w_seq (fun K hK_1 => ?_)
  refine t_region ?_
  refine t_val (v := .bool false) rfl rfl hE rfl (r_assign hE rfl) (fun a hE => ?_)
  refine t_nil ?_
  refine hK_1 _ _ ?_
  refine w_seq (fun K hK_2 => ?_)
  refine t_region ?_
  refine t_call hE hR cl_disk_New rfl (S_disk_New 12) (M.unbind H) (fun x9_3 a w ea hR H => ?_)
  have hE := Env.put_some hE rfl ea; clear ea
  refine t_val (v := .tuple #[.pointer x9_3.1, .int .i64 x9_3.2]) rfl rfl hE rfl (r_move hE rfl) (fun a hE => ?_)
  refine t_val (v := .pointer x9_3.1) rfl rfl hE rfl (r_extract hE rfl rfl) (fun a hE => ?_)
  refine t_val (v := .int .i64 x9_3.2) rfl rfl hE rfl (r_extract hE rfl rfl) (fun a hE => ?_)
  refine t_val (v := .pointer x9_3.1) rfl rfl hE rfl (r_assign hE rfl) (fun a hE => ?_)
  refine t_val (v := .int .i64 x9_3.2) rfl rfl hE rfl (r_assign hE rfl) (fun a hE => ?_)
  refine t_nil ?_
  refine hK_2 _ _ ?_
  refine w_seq (fun K hK_4 => ?_)
  refine t_region ?_
  refine t_val (v := .pointer x9_3.1) rfl rfl hE rfl (r_move hE rfl) (fun a hE => ?_)
  obtain ⟨x14_5, qx14_5, H⟩ := H
  refine t_valh (v := (x14_5 : Sl).v) rfl rfl hE rfl hR (r_buildL (cells := #[.int .u8 5]) hE rfl un30 sz5 zr5 rfl rfl qx14_5) (fun a w hE hR hh => ?_)
  replace H := M.at hh H; clear hh
  refine t_call hE hR cl_wal_Format rfl (S_wal_Format x9_3.1 8 x14_5) (M.unbind H) (fun x15_6 a w ea hR H => ?_)
  have hE := Env.put_some hE rfl ea; clear ea
  refine t_val (v := .tuple #[.pointer x15_6.1, .int .i64 x15_6.2]) rfl rfl hE rfl (r_move hE rfl) (fun a hE => ?_)
  refine t_val (v := .pointer x15_6.1) rfl rfl hE rfl (r_extract hE rfl rfl) (fun a hE => ?_)
  refine t_val (v := .int .i64 x15_6.2) rfl rfl hE rfl (r_extract hE rfl rfl) (fun a hE => ?_)
  refine t_val (v := .pointer x15_6.1) rfl rfl hE rfl (r_assign hE rfl) (fun a hE => ?_)
  refine t_val (v := .int .i64 x15_6.2) rfl rfl hE rfl (r_assign hE rfl) (fun a hE => ?_)
  refine t_nil ?_
  refine hK_4 _ _ ?_
  refine w_seq (fun K hK_7 => ?_)
  refine w_seq (fun K hK_8 => ?_)
  refine t_region ?_
  refine t_val (v := .int .i64 x9_3.2) rfl rfl hE rfl (r_move hE rfl) (fun a hE => ?_)
  refine t_val (v := .bool (x9_3.2 != 0)) rfl rfl hE rfl (r_bin hE rfl rfl g_int b_neq) (fun a hE => ?_)
  refine t_val (v := .bool (x9_3.2 != 0)) rfl rfl hE rfl (r_move hE rfl) (fun a hE => ?_)
  refine t_grp (n := (⟨98, []⟩ : Frm)) (w0 := w0) 3 (fun x23_9 : Bool => [(1, .pointer x9_3.1), (3, .pointer x15_6.1), (23, .bool x23_9)]) (M.unbind H) (fun Kr hKr H => ?_) ?_
  · rcases bool_em (x9_3.2 != 0) with hb | hb
    · replace H := M.ite_t hb H
      have hE := hE.reb 20 (x9_3.2 != 0) true hb rfl
      refine t_off rfl hE rfl rfl rfl (fun a ea => ?_)
      have hE := Env.put_some hE rfl ea; clear ea
      refine t_off rfl hE rfl rfl rfl (fun a ea => ?_)
      have hE := Env.put_some hE rfl ea; clear ea
      refine t_val rfl rfl hE rfl (r_pick_t hE rfl rfl) (fun a hE => ?_)
      refine t_nil ?_
      exact hKr _ _ _ (hE.cut (.cons rfl (.cons rfl (.cons rfl Subs.nil)))) hR H
    · replace H := M.ite_f hb H
      have hE := hE.reb 20 (x9_3.2 != 0) false hb rfl
      refine t_on rfl hE rfl rfl rfl ?_
      refine t_val (v := .int .i64 x15_6.2) rfl rfl hE rfl (r_move hE rfl) (fun a hE => ?_)
      refine t_on rfl hE rfl rfl rfl ?_
      refine t_val (v := .bool (x15_6.2 != 0)) rfl rfl hE rfl (r_bin hE rfl rfl g_int b_neq) (fun a hE => ?_)
      refine t_val rfl rfl hE rfl (r_pick_f hE rfl rfl) (fun a hE => ?_)
      refine t_nil ?_
      exact hKr _ _ _ (hE.cut (.cons rfl (.cons rfl (.cons rfl Subs.nil)))) hR H
  · intro x23_9 a w hE hR H
    refine t_val (v := .bool x23_9) rfl rfl hE rfl (r_move hE rfl) (fun a hE => ?_)
    refine t_grp (n := (⟨98, []⟩ : Frm)) (w0 := w0) 3 (fun x27_10 : Bool => [(1, .pointer x9_3.1), (3, .pointer x15_6.1), (27, .bool x27_10)]) (M.unbind H) (fun Kr hKr H => ?_) ?_
    · rcases bool_em x23_9 with hb | hb
      · replace H := M.ite_t hb H
        have hE := hE.reb 24 x23_9 true hb rfl
        refine t_off rfl hE rfl rfl rfl (fun a ea => ?_)
        have hE := Env.put_some hE rfl ea; clear ea
        refine t_off rfl hE rfl rfl rfl (fun a ea => ?_)
        have hE := Env.put_some hE rfl ea; clear ea
        refine t_val rfl rfl hE rfl (r_pick_t hE rfl rfl) (fun a hE => ?_)
        refine t_nil ?_
        exact hKr _ _ _ (hE.cut (.cons rfl (.cons rfl (.cons rfl Subs.nil)))) hR H
      · replace H := M.ite_f hb H
        have hE := hE.reb 24 x23_9 false hb rfl
        refine t_on rfl hE rfl rfl rfl ?_
        refine t_val (v := .pointer x15_6.1) rfl rfl hE rfl (r_move hE rfl) (fun a hE => ?_)
        refine t_on rfl hE rfl rfl rfl ?_
        refine t_val (v := .bool ((x15_6.1).isNone)) rfl rfl hE rfl (r_bin hE rfl rfl g_ptr (b_eqlP un27)) (fun a hE => ?_)
        refine t_val rfl rfl hE rfl (r_pick_f hE rfl rfl) (fun a hE => ?_)
        refine t_nil ?_
        exact hKr _ _ _ (hE.cut (.cons rfl (.cons rfl (.cons rfl Subs.nil)))) hR H
    · intro x27_10 a w hE hR H
      refine t_val (v := .bool x27_10) rfl rfl hE rfl (r_move hE rfl) (fun a hE => ?_)
      refine t_grp (n := (⟨98, []⟩ : Frm)) (w0 := w0) 9 (fun x37_11 : Bool => [(1, .pointer x9_3.1), (37, .bool x37_11)]) (M.unbind H) (fun Kr hKr H => ?_) ?_
      · rcases bool_em x27_10 with hb | hb
        · replace H := M.ite_t hb H
          have hE := hE.reb 28 x27_10 true hb rfl
          refine t_off rfl hE rfl rfl rfl (fun a ea => ?_)
          have hE := Env.put_some hE rfl ea; clear ea
          refine t_off rfl hE rfl rfl rfl (fun a ea => ?_)
          have hE := Env.put_some hE rfl ea; clear ea
          refine t_off rfl hE rfl rfl rfl (fun a ea => ?_)
          have hE := Env.put_some hE rfl ea; clear ea
          refine t_off rfl hE rfl rfl rfl (fun a ea => ?_)
          have hE := Env.put_some hE rfl ea; clear ea
          refine t_off rfl hE rfl rfl rfl (fun a ea => ?_)
          have hE := Env.put_some hE rfl ea; clear ea
          refine t_off rfl hE rfl rfl rfl (fun a ea => ?_)
          have hE := Env.put_some hE rfl ea; clear ea
          refine t_off rfl hE rfl rfl rfl (fun a ea => ?_)
          have hE := Env.put_some hE rfl ea; clear ea
          refine t_off rfl hE rfl rfl rfl (fun a ea => ?_)
          have hE := Env.put_some hE rfl ea; clear ea
          refine t_val rfl rfl hE rfl (r_pick_t hE rfl rfl) (fun a hE => ?_)
          refine t_nil ?_
          exact hKr _ _ _ (hE.cut (.cons rfl (.cons rfl Subs.nil))) hR H
        · replace H := M.ite_f hb H
          have hE := hE.reb 28 x27_10 false hb rfl
          refine t_on rfl hE rfl rfl rfl ?_
          refine t_val (v := .pointer x15_6.1) rfl rfl hE rfl (r_move hE rfl) (fun a hE => ?_)
          refine t_on rfl hE rfl rfl rfl ?_
          obtain ⟨x30_12, qx30_12, H⟩ := H
          refine t_valh (v := (x30_12 : Sl).v) rfl rfl hE rfl hR (r_buildL (cells := #[.int .u8 97]) hE rfl un30 sz5 zr5 rfl rfl qx30_12) (fun a w hE hR hh => ?_)
          replace H := M.at hh H; clear hh
          refine t_on rfl hE rfl rfl rfl ?_
          obtain ⟨x31_13, qx31_13, H⟩ := H
          refine t_valh (v := (x31_13 : Sl).v) rfl rfl hE rfl hR (r_mrk hE rfl un30 un5 qx31_13) (fun a w hE hR hh => ?_)
          replace H := M.at hh H; clear hh
          refine t_on rfl hE rfl rfl rfl ?_
          obtain ⟨x32_14, qx32_14, H⟩ := H
          refine t_valh (v := (x32_14 : Sl).v) rfl rfl hE rfl hR (r_buildL (cells := #[.int .u8 98, .int .u8 99]) hE rfl un30 sz5 zr5 rfl rfl qx32_14) (fun a w hE hR hh => ?_)
          replace H := M.at hh H; clear hh
          refine t_on rfl hE rfl rfl rfl ?_
          obtain ⟨x33_15, qx33_15, H⟩ := H
          refine t_valh (v := (x33_15 : Sl).v) rfl rfl hE rfl hR (r_mrk hE rfl un30 un5 qx33_15) (fun a w hE hR hh => ?_)
          replace H := M.at hh H; clear hh
          refine t_on rfl hE rfl rfl rfl ?_
          obtain ⟨x34_16, qx34_16, H⟩ := H
          refine t_valh (v := (x34_16 : Sl).v) rfl rfl hE rfl hR (r_buildL (cells := #[(x31_13 : Sl).v, (x33_15 : Sl).v]) hE rfl un32 sz30 zr30 rfl rfl qx34_16) (fun a w hE hR hh => ?_)
          replace H := M.at hh H; clear hh
          refine t_on rfl hE rfl rfl rfl ?_
          refine t_call hE hR cl_wal_Log_Append rfl (S_wal_Log_Append x15_6.1 x34_16) (M.unbind H) (fun x35_17 a w ea hR H => ?_)
          have hE := Env.put_some hE rfl ea; clear ea
          refine t_on rfl hE rfl rfl rfl ?_
          refine t_val (v := .bool (x35_17 != 0)) rfl rfl hE rfl (r_bin hE rfl rfl g_int b_neq) (fun a hE => ?_)
          refine t_val rfl rfl hE rfl (r_pick_f hE rfl rfl) (fun a hE => ?_)
          refine t_nil ?_
          exact hKr _ _ _ (hE.cut (.cons rfl (.cons rfl Subs.nil))) hR H
      · intro x37_11 a w hE hR H
        refine t_nil ?_
        refine hK_8 _ _ ?_
        refine w_cond x37_11 hE rfl (fun hb => ?_) (fun hb => ?_)
        · replace H := M.ite_t hb H
          refine w_seq (fun K hK_18 => ?_)
          refine t_region ?_
          refine t_val (v := .bool false) rfl rfl hE rfl (r_assign hE rfl) (fun a hE => ?_)
          refine t_nil ?_
          refine hK_18 _ _ ?_
          refine w_ret ?_
          exact hret _ _ _ false _ hE hR (res_run hE rfl (RV.tmp rfl RV.nil)) rfl H
        · replace H := M.ite_f hb H
          refine w_skip ?_
          refine hK_7 _ _ ?_
          refine w_seq (fun K hK_19 => ?_)
          refine t_region ?_
          refine t_val (v := .pointer x9_3.1) rfl rfl hE rfl (r_move hE rfl) (fun a hE => ?_)
          refine t_call hE hR cl_wal_Open rfl (S_wal_Open x9_3.1) (M.unbind H) (fun x40_20 a w ea hR H => ?_)
          have hE := Env.put_some hE rfl ea; clear ea
          refine t_val (v := .tuple #[.pointer x40_20.1, (x40_20.2.1 : Sl).v, (x40_20.2.2.1 : Sl).v, .int .i64 x40_20.2.2.2]) rfl rfl hE rfl (r_move hE rfl) (fun a hE => ?_)
          refine t_val (v := .pointer x40_20.1) rfl rfl hE rfl (r_extract hE rfl rfl) (fun a hE => ?_)
          refine t_val (v := (x40_20.2.1 : Sl).v) rfl rfl hE rfl (r_extract hE rfl rfl) (fun a hE => ?_)
          refine t_val (v := (x40_20.2.2.1 : Sl).v) rfl rfl hE rfl (r_extract hE rfl rfl) (fun a hE => ?_)
          refine t_val (v := .int .i64 x40_20.2.2.2) rfl rfl hE rfl (r_extract hE rfl rfl) (fun a hE => ?_)
          refine t_val (v := .pointer x40_20.1) rfl rfl hE rfl (r_assign hE rfl) (fun a hE => ?_)
          refine t_val (v := (x40_20.2.1 : Sl).v) rfl rfl hE rfl (r_assign hE rfl) (fun a hE => ?_)
          refine t_val (v := (x40_20.2.2.1 : Sl).v) rfl rfl hE rfl (r_assign hE rfl) (fun a hE => ?_)
          refine t_val (v := .int .i64 x40_20.2.2.2) rfl rfl hE rfl (r_assign hE rfl) (fun a hE => ?_)
          refine t_nil ?_
          refine hK_19 _ _ ?_
          refine w_seq (fun K hK_21 => ?_)
          refine t_region ?_
          refine t_val (v := .int .i64 x40_20.2.2.2) rfl rfl hE rfl (r_move hE rfl) (fun a hE => ?_)
          refine t_val (v := .bool (x40_20.2.2.2 == 0)) rfl rfl hE rfl (r_bin hE rfl rfl g_int b_eql) (fun a hE => ?_)
          refine t_val (v := .bool (x40_20.2.2.2 == 0)) rfl rfl hE rfl (r_move hE rfl) (fun a hE => ?_)
          refine t_grp (n := (⟨98, []⟩ : Frm)) (w0 := w0) 3 (fun x50_22 : Bool => [(5, .pointer x40_20.1), (6, (x40_20.2.1 : Sl).v), (7, (x40_20.2.2.1 : Sl).v), (50, .bool x50_22)]) (M.unbind H) (fun Kr hKr H => ?_) ?_
          · rcases bool_em (x40_20.2.2.2 == 0) with hb | hb
            · replace H := M.ite_t hb H
              have hE := hE.reb 47 (x40_20.2.2.2 == 0) true hb rfl
              refine t_on rfl hE rfl rfl rfl ?_
              refine t_val (v := .pointer x40_20.1) rfl rfl hE rfl (r_move hE rfl) (fun a hE => ?_)
              refine t_on rfl hE rfl rfl rfl ?_
              refine t_val (v := .bool (!(x40_20.1).isNone)) rfl rfl hE rfl (r_bin hE rfl rfl g_ptr (b_neqP un27)) (fun a hE => ?_)
              refine t_val rfl rfl hE rfl (r_pick_t hE rfl rfl) (fun a hE => ?_)
              refine t_nil ?_
              exact hKr _ _ _ (hE.cut (.cons rfl (.cons rfl (.cons rfl (.cons rfl Subs.nil))))) hR H
            · replace H := M.ite_f hb H
              have hE := hE.reb 47 (x40_20.2.2.2 == 0) false hb rfl
              refine t_off rfl hE rfl rfl rfl (fun a ea => ?_)
              have hE := Env.put_some hE rfl ea; clear ea
              refine t_off rfl hE rfl rfl rfl (fun a ea => ?_)
              have hE := Env.put_some hE rfl ea; clear ea
              refine t_val rfl rfl hE rfl (r_pick_f hE rfl rfl) (fun a hE => ?_)
              refine t_nil ?_
              exact hKr _ _ _ (hE.cut (.cons rfl (.cons rfl (.cons rfl (.cons rfl Subs.nil))))) hR H
          · intro x50_22 a w hE hR H
            refine t_val (v := .bool x50_22) rfl rfl hE rfl (r_move hE rfl) (fun a hE => ?_)
            refine t_grp (n := (⟨98, []⟩ : Frm)) (w0 := w0) 4 (fun x55_23 : Bool => [(5, .pointer x40_20.1), (7, (x40_20.2.2.1 : Sl).v), (55, .bool x55_23)]) (M.unbind H) (fun Kr hKr H => ?_) ?_
            · rcases bool_em x50_22 with hb | hb
              · replace H := M.ite_t hb H
                have hE := hE.reb 51 x50_22 true hb rfl
                refine t_on rfl hE rfl rfl rfl ?_
                refine t_val (v := (x40_20.2.1 : Sl).v) rfl rfl hE rfl (r_move hE rfl) (fun a hE => ?_)
                refine t_on rfl hE rfl rfl rfl ?_
                obtain ⟨x53_24, qx53_24, H⟩ := H
                refine t_valh (v := (x53_24 : Sl).v) rfl rfl hE rfl hR (r_buildL (cells := #[.int .u8 5]) hE rfl un30 sz5 zr5 rfl rfl qx53_24) (fun a w hE hR hh => ?_)
                replace H := M.at hh H; clear hh
                refine t_on rfl hE rfl rfl rfl ?_
                refine t_call hE hR cl_bytes_Equal rfl (S_bytes_Equal x40_20.2.1 x53_24) (M.unbind H) (fun x54_25 a w ea hR H => ?_)
                have hE := Env.put_some hE rfl ea; clear ea
                refine t_val rfl rfl hE rfl (r_pick_t hE rfl rfl) (fun a hE => ?_)
                refine t_nil ?_
                exact hKr _ _ _ (hE.cut (.cons rfl (.cons rfl (.cons rfl Subs.nil)))) hR H
              · replace H := M.ite_f hb H
                have hE := hE.reb 51 x50_22 false hb rfl
                refine t_off rfl hE rfl rfl rfl (fun a ea => ?_)
                have hE := Env.put_some hE rfl ea; clear ea
                refine t_off rfl hE rfl rfl rfl (fun a ea => ?_)
                have hE := Env.put_some hE rfl ea; clear ea
                refine t_off rfl hE rfl rfl rfl (fun a ea => ?_)
                have hE := Env.put_some hE rfl ea; clear ea
                refine t_val rfl rfl hE rfl (r_pick_f hE rfl rfl) (fun a hE => ?_)
                refine t_nil ?_
                exact hKr _ _ _ (hE.cut (.cons rfl (.cons rfl (.cons rfl Subs.nil)))) hR H
            · intro x55_23 a w hE hR H
              refine t_val (v := .bool x55_23) rfl rfl hE rfl (r_move hE rfl) (fun a hE => ?_)
              refine t_grp (n := (⟨98, []⟩ : Frm)) (w0 := w0) 4 (fun x60_26 : Bool => [(5, .pointer x40_20.1), (7, (x40_20.2.2.1 : Sl).v), (60, .bool x60_26)]) (M.unbind H) (fun Kr hKr H => ?_) ?_
              · rcases bool_em x55_23 with hb | hb
                · replace H := M.ite_t hb H
                  have hE := hE.reb 56 x55_23 true hb rfl
                  refine t_on rfl hE rfl rfl rfl ?_
                  refine t_val (v := (x40_20.2.2.1 : Sl).v) rfl rfl hE rfl (r_move hE rfl) (fun a hE => ?_)
                  refine t_on rfl hE rfl rfl rfl ?_
                  refine t_val (v := .int .i64 (x40_20.2.2.1.len : Int)) rfl rfl hE rfl (r_len hE rfl 32 un22) (fun a hE => ?_)
                  refine t_on rfl hE rfl rfl rfl ?_
                  refine t_val (v := .bool ((x40_20.2.2.1.len : Int) == 1)) rfl rfl hE rfl (r_bin hE rfl rfl g_int b_eql) (fun a hE => ?_)
                  refine t_val rfl rfl hE rfl (r_pick_t hE rfl rfl) (fun a hE => ?_)
                  refine t_nil ?_
                  exact hKr _ _ _ (hE.cut (.cons rfl (.cons rfl (.cons rfl Subs.nil)))) hR H
                · replace H := M.ite_f hb H
                  have hE := hE.reb 56 x55_23 false hb rfl
                  refine t_off rfl hE rfl rfl rfl (fun a ea => ?_)
                  have hE := Env.put_some hE rfl ea; clear ea
                  refine t_off rfl hE rfl rfl rfl (fun a ea => ?_)
                  have hE := Env.put_some hE rfl ea; clear ea
                  refine t_off rfl hE rfl rfl rfl (fun a ea => ?_)
                  have hE := Env.put_some hE rfl ea; clear ea
                  refine t_val rfl rfl hE rfl (r_pick_f hE rfl rfl) (fun a hE => ?_)
                  refine t_nil ?_
                  exact hKr _ _ _ (hE.cut (.cons rfl (.cons rfl (.cons rfl Subs.nil)))) hR H
              · intro x60_26 a w hE hR H
                refine t_val (v := .bool x60_26) rfl rfl hE rfl (r_move hE rfl) (fun a hE => ?_)
                refine t_grp (n := (⟨98, []⟩ : Frm)) (w0 := w0) 6 (fun x67_27 : Bool => [(5, .pointer x40_20.1), (7, (x40_20.2.2.1 : Sl).v), (67, .bool x67_27)]) (M.unbind H) (fun Kr hKr H => ?_) ?_
                · rcases bool_em x60_26 with hb | hb
                  · replace H := M.ite_t hb H
                    have hE := hE.reb 61 x60_26 true hb rfl
                    refine t_on rfl hE rfl rfl rfl ?_
                    refine t_val (v := (x40_20.2.2.1 : Sl).v) rfl rfl hE rfl (r_move hE rfl) (fun a hE => ?_)
                    refine t_on rfl hE rfl rfl rfl ?_
                    obtain ⟨x63_28, qx63_28, H⟩ := H
                    refine t_val (v := .pointer (some x63_28)) rfl rfl hE rfl (r_indexAddrL hE rfl rfl un22 sz32 qx63_28) (fun a hE => ?_)
                    refine t_on rfl hE rfl rfl rfl ?_
                    obtain ⟨x64_29, qx64_29, H⟩ := H
                    refine t_val (v := (x64_29 : Sl).v) rfl rfl hE rfl (r_load hE rfl sc32 qx64_29) (fun a hE => ?_)
                    refine t_on rfl hE rfl rfl rfl ?_
                    refine t_val (v := .int .i64 (x64_29.len : Int)) rfl rfl hE rfl (r_len hE rfl 30 un32) (fun a hE => ?_)
                    refine t_on rfl hE rfl rfl rfl ?_
                    refine t_val (v := .bool ((x64_29.len : Int) == 2)) rfl rfl hE rfl (r_bin hE rfl rfl g_int b_eql) (fun a hE => ?_)
                    refine t_val rfl rfl hE rfl (r_pick_t hE rfl rfl) (fun a hE => ?_)
                    refine t_nil ?_
                    exact hKr _ _ _ (hE.cut (.cons rfl (.cons rfl (.cons rfl Subs.nil)))) hR H
                  · replace H := M.ite_f hb H
                    have hE := hE.reb 61 x60_26 false hb rfl
                    refine t_off rfl hE rfl rfl rfl (fun a ea => ?_)
                    have hE := Env.put_some hE rfl ea; clear ea
                    refine t_off rfl hE rfl rfl rfl (fun a ea => ?_)
                    have hE := Env.put_some hE rfl ea; clear ea
                    refine t_off rfl hE rfl rfl rfl (fun a ea => ?_)
                    have hE := Env.put_some hE rfl ea; clear ea
                    refine t_off rfl hE rfl rfl rfl (fun a ea => ?_)
                    have hE := Env.put_some hE rfl ea; clear ea
                    refine t_off rfl hE rfl rfl rfl (fun a ea => ?_)
                    have hE := Env.put_some hE rfl ea; clear ea
                    refine t_val rfl rfl hE rfl (r_pick_f hE rfl rfl) (fun a hE => ?_)
                    refine t_nil ?_
                    exact hKr _ _ _ (hE.cut (.cons rfl (.cons rfl (.cons rfl Subs.nil)))) hR H
                · intro x67_27 a w hE hR H
                  refine t_val (v := .bool x67_27) rfl rfl hE rfl (r_move hE rfl) (fun a hE => ?_)
                  refine t_grp (n := (⟨98, []⟩ : Frm)) (w0 := w0) 8 (fun x76_30 : Bool => [(5, .pointer x40_20.1), (76, .bool x76_30)]) (M.unbind H) (fun Kr hKr H => ?_) ?_
                  · rcases bool_em x67_27 with hb | hb
                    · replace H := M.ite_t hb H
                      have hE := hE.reb 68 x67_27 true hb rfl
                      refine t_on rfl hE rfl rfl rfl ?_
                      refine t_val (v := (x40_20.2.2.1 : Sl).v) rfl rfl hE rfl (r_move hE rfl) (fun a hE => ?_)
                      refine t_on rfl hE rfl rfl rfl ?_
                      obtain ⟨x70_31, qx70_31, H⟩ := H
                      refine t_val (v := .pointer (some x70_31)) rfl rfl hE rfl (r_indexAddrL hE rfl rfl un22 sz32 qx70_31) (fun a hE => ?_)
                      refine t_on rfl hE rfl rfl rfl ?_
                      obtain ⟨x71_32, qx71_32, H⟩ := H
                      refine t_val (v := (x71_32 : Sl).v) rfl rfl hE rfl (r_load hE rfl sc32 qx71_32) (fun a hE => ?_)
                      refine t_on rfl hE rfl rfl rfl ?_
                      obtain ⟨x72_33, qx72_33, H⟩ := H
                      refine t_val (v := .pointer (some x72_33)) rfl rfl hE rfl (r_indexAddrL hE rfl rfl un32 sz30 qx72_33) (fun a hE => ?_)
                      refine t_on rfl hE rfl rfl rfl ?_
                      obtain ⟨x73_34, qx73_34, H⟩ := H
                      refine t_val (v := (x73_34 : Sl).v) rfl rfl hE rfl (r_load hE rfl sc30 qx73_34) (fun a hE => ?_)
                      refine t_on rfl hE rfl rfl rfl ?_
                      obtain ⟨x74_35, qx74_35, H⟩ := H
                      refine t_val (v := .string x74_35) rfl rfl hE rfl (b2s_run hE rfl un30 un9 un5 qx74_35) (fun a hE => ?_)
                      refine t_on rfl hE rfl rfl rfl ?_
                      refine t_val (v := .bool (sEq x74_35 (⟨#[98, 99]⟩ : ByteArray))) rfl rfl hE rfl (r_bin hE rfl rfl g_str b_eqlS) (fun a hE => ?_)
                      refine t_val rfl rfl hE rfl (r_pick_t hE rfl rfl) (fun a hE => ?_)
                      refine t_nil ?_
                      exact hKr _ _ _ (hE.cut (.cons rfl (.cons rfl Subs.nil))) hR H
                    · replace H := M.ite_f hb H
                      have hE := hE.reb 68 x67_27 false hb rfl
                      refine t_off rfl hE rfl rfl rfl (fun a ea => ?_)
                      have hE := Env.put_some hE rfl ea; clear ea
                      refine t_off rfl hE rfl rfl rfl (fun a ea => ?_)
                      have hE := Env.put_some hE rfl ea; clear ea
                      refine t_off rfl hE rfl rfl rfl (fun a ea => ?_)
                      have hE := Env.put_some hE rfl ea; clear ea
                      refine t_off rfl hE rfl rfl rfl (fun a ea => ?_)
                      have hE := Env.put_some hE rfl ea; clear ea
                      refine t_off rfl hE rfl rfl rfl (fun a ea => ?_)
                      have hE := Env.put_some hE rfl ea; clear ea
                      refine t_off rfl hE rfl rfl rfl (fun a ea => ?_)
                      have hE := Env.put_some hE rfl ea; clear ea
                      refine t_off rfl hE rfl rfl rfl (fun a ea => ?_)
                      have hE := Env.put_some hE rfl ea; clear ea
                      refine t_val rfl rfl hE rfl (r_pick_f hE rfl rfl) (fun a hE => ?_)
                      refine t_nil ?_
                      exact hKr _ _ _ (hE.cut (.cons rfl (.cons rfl Subs.nil))) hR H
                  · intro x76_30 a w hE hR H
                    refine t_val (v := .bool x76_30) rfl rfl hE rfl (r_move hE rfl) (fun a hE => ?_)
                    refine t_grp (n := (⟨98, []⟩ : Frm)) (w0 := w0) 5 (fun x82_36 : Bool => [(5, .pointer x40_20.1), (82, .bool x82_36)]) (M.unbind H) (fun Kr hKr H => ?_) ?_
                    · rcases bool_em x76_30 with hb | hb
                      · replace H := M.ite_t hb H
                        have hE := hE.reb 77 x76_30 true hb rfl
                        refine t_on rfl hE rfl rfl rfl ?_
                        refine t_val (v := .pointer x40_20.1) rfl rfl hE rfl (r_move hE rfl) (fun a hE => ?_)
                        refine t_on rfl hE rfl rfl rfl ?_
                        obtain ⟨x79_37, qx79_37, H⟩ := H
                        refine t_valh (v := (x79_37 : Sl).v) rfl rfl hE rfl hR (r_buildL (cells := #[(Sl.nil : Sl).v]) hE rfl un32 sz30 zr30 rfl rfl qx79_37) (fun a w hE hR hh => ?_)
                        replace H := M.at hh H; clear hh
                        refine t_on rfl hE rfl rfl rfl ?_
                        refine t_call hE hR cl_wal_Log_Append rfl (S_wal_Log_Append x40_20.1 x79_37) (M.unbind H) (fun x80_38 a w ea hR H => ?_)
                        have hE := Env.put_some hE rfl ea; clear ea
                        refine t_on rfl hE rfl rfl rfl ?_
                        refine t_val (v := .bool (x80_38 == 61)) rfl rfl hE rfl (r_bin hE rfl rfl g_int b_eql) (fun a hE => ?_)
                        refine t_val rfl rfl hE rfl (r_pick_t hE rfl rfl) (fun a hE => ?_)
                        refine t_nil ?_
                        exact hKr _ _ _ (hE.cut (.cons rfl (.cons rfl Subs.nil))) hR H
                      · replace H := M.ite_f hb H
                        have hE := hE.reb 77 x76_30 false hb rfl
                        refine t_off rfl hE rfl rfl rfl (fun a ea => ?_)
                        have hE := Env.put_some hE rfl ea; clear ea
                        refine t_off rfl hE rfl rfl rfl (fun a ea => ?_)
                        have hE := Env.put_some hE rfl ea; clear ea
                        refine t_off rfl hE rfl rfl rfl (fun a ea => ?_)
                        have hE := Env.put_some hE rfl ea; clear ea
                        refine t_off rfl hE rfl rfl rfl (fun a ea => ?_)
                        have hE := Env.put_some hE rfl ea; clear ea
                        refine t_val rfl rfl hE rfl (r_pick_f hE rfl rfl) (fun a hE => ?_)
                        refine t_nil ?_
                        exact hKr _ _ _ (hE.cut (.cons rfl (.cons rfl Subs.nil))) hR H
                    · intro x82_36 a w hE hR H
                      refine t_val (v := .bool x82_36) rfl rfl hE rfl (r_move hE rfl) (fun a hE => ?_)
                      refine t_grp (n := (⟨98, []⟩ : Frm)) (w0 := w0) 4 (fun x87_39 : Bool => [(5, .pointer x40_20.1), (87, .bool x87_39)]) (M.unbind H) (fun Kr hKr H => ?_) ?_
                      · rcases bool_em x82_36 with hb | hb
                        · replace H := M.ite_t hb H
                          have hE := hE.reb 83 x82_36 true hb rfl
                          refine t_on rfl hE rfl rfl rfl ?_
                          refine t_val (v := .pointer x40_20.1) rfl rfl hE rfl (r_move hE rfl) (fun a hE => ?_)
                          refine t_on rfl hE rfl rfl rfl ?_
                          refine t_call hE hR cl_wal_Log_Reset rfl (S_wal_Log_Reset x40_20.1) (M.unbind H) (fun x85_40 a w ea hR H => ?_)
                          have hE := Env.put_some hE rfl ea; clear ea
                          refine t_on rfl hE rfl rfl rfl ?_
                          refine t_val (v := .bool (x85_40 == 0)) rfl rfl hE rfl (r_bin hE rfl rfl g_int b_eql) (fun a hE => ?_)
                          refine t_val rfl rfl hE rfl (r_pick_t hE rfl rfl) (fun a hE => ?_)
                          refine t_nil ?_
                          exact hKr _ _ _ (hE.cut (.cons rfl (.cons rfl Subs.nil))) hR H
                        · replace H := M.ite_f hb H
                          have hE := hE.reb 83 x82_36 false hb rfl
                          refine t_off rfl hE rfl rfl rfl (fun a ea => ?_)
                          have hE := Env.put_some hE rfl ea; clear ea
                          refine t_off rfl hE rfl rfl rfl (fun a ea => ?_)
                          have hE := Env.put_some hE rfl ea; clear ea
                          refine t_off rfl hE rfl rfl rfl (fun a ea => ?_)
                          have hE := Env.put_some hE rfl ea; clear ea
                          refine t_val rfl rfl hE rfl (r_pick_f hE rfl rfl) (fun a hE => ?_)
                          refine t_nil ?_
                          exact hKr _ _ _ (hE.cut (.cons rfl (.cons rfl Subs.nil))) hR H
                      · intro x87_39 a w hE hR H
                        refine t_val (v := .bool x87_39) rfl rfl hE rfl (r_move hE rfl) (fun a hE => ?_)
                        refine t_grp (n := (⟨98, []⟩ : Frm)) (w0 := w0) 4 (fun x92_41 : Bool => [(5, .pointer x40_20.1), (92, .bool x92_41)]) (M.unbind H) (fun Kr hKr H => ?_) ?_
                        · rcases bool_em x87_39 with hb | hb
                          · replace H := M.ite_t hb H
                            have hE := hE.reb 88 x87_39 true hb rfl
                            refine t_on rfl hE rfl rfl rfl ?_
                            refine t_val (v := .pointer x40_20.1) rfl rfl hE rfl (r_move hE rfl) (fun a hE => ?_)
                            refine t_on rfl hE rfl rfl rfl ?_
                            refine t_call hE hR cl_wal_Log_Epoch rfl (S_wal_Log_Epoch x40_20.1) (M.unbind H) (fun x90_42 a w ea hR H => ?_)
                            have hE := Env.put_some hE rfl ea; clear ea
                            refine t_on rfl hE rfl rfl rfl ?_
                            refine t_val (v := .bool (x90_42 == 2)) rfl rfl hE rfl (r_bin hE rfl rfl g_int b_eql) (fun a hE => ?_)
                            refine t_val rfl rfl hE rfl (r_pick_t hE rfl rfl) (fun a hE => ?_)
                            refine t_nil ?_
                            exact hKr _ _ _ (hE.cut (.cons rfl (.cons rfl Subs.nil))) hR H
                          · replace H := M.ite_f hb H
                            have hE := hE.reb 88 x87_39 false hb rfl
                            refine t_off rfl hE rfl rfl rfl (fun a ea => ?_)
                            have hE := Env.put_some hE rfl ea; clear ea
                            refine t_off rfl hE rfl rfl rfl (fun a ea => ?_)
                            have hE := Env.put_some hE rfl ea; clear ea
                            refine t_off rfl hE rfl rfl rfl (fun a ea => ?_)
                            have hE := Env.put_some hE rfl ea; clear ea
                            refine t_val rfl rfl hE rfl (r_pick_f hE rfl rfl) (fun a hE => ?_)
                            refine t_nil ?_
                            exact hKr _ _ _ (hE.cut (.cons rfl (.cons rfl Subs.nil))) hR H
                        · intro x92_41 a w hE hR H
                          refine t_val (v := .bool x92_41) rfl rfl hE rfl (r_move hE rfl) (fun a hE => ?_)
                          refine t_grp (n := (⟨98, []⟩ : Frm)) (w0 := w0) 4 (fun x97_43 : Bool => [(97, .bool x97_43)]) (M.unbind H) (fun Kr hKr H => ?_) ?_
                          · rcases bool_em x92_41 with hb | hb
                            · replace H := M.ite_t hb H
                              have hE := hE.reb 93 x92_41 true hb rfl
                              refine t_on rfl hE rfl rfl rfl ?_
                              refine t_val (v := .pointer x40_20.1) rfl rfl hE rfl (r_move hE rfl) (fun a hE => ?_)
                              refine t_on rfl hE rfl rfl rfl ?_
                              refine t_call hE hR cl_wal_Log_Used rfl (S_wal_Log_Used x40_20.1) (M.unbind H) (fun x95_44 a w ea hR H => ?_)
                              have hE := Env.put_some hE rfl ea; clear ea
                              refine t_on rfl hE rfl rfl rfl ?_
                              refine t_val (v := .bool (x95_44 == 0)) rfl rfl hE rfl (r_bin hE rfl rfl g_int b_eql) (fun a hE => ?_)
                              refine t_val rfl rfl hE rfl (r_pick_t hE rfl rfl) (fun a hE => ?_)
                              refine t_nil ?_
                              exact hKr _ _ _ (hE.cut (.cons rfl Subs.nil)) hR H
                            · replace H := M.ite_f hb H
                              have hE := hE.reb 93 x92_41 false hb rfl
                              refine t_off rfl hE rfl rfl rfl (fun a ea => ?_)
                              have hE := Env.put_some hE rfl ea; clear ea
                              refine t_off rfl hE rfl rfl rfl (fun a ea => ?_)
                              have hE := Env.put_some hE rfl ea; clear ea
                              refine t_off rfl hE rfl rfl rfl (fun a ea => ?_)
                              have hE := Env.put_some hE rfl ea; clear ea
                              refine t_val rfl rfl hE rfl (r_pick_f hE rfl rfl) (fun a hE => ?_)
                              refine t_nil ?_
                              exact hKr _ _ _ (hE.cut (.cons rfl Subs.nil)) hR H
                          · intro x97_43 a w hE hR H
                            refine t_val (v := .bool x97_43) rfl rfl hE rfl (r_assign hE rfl) (fun a hE => ?_)
                            refine t_nil ?_
                            refine hK_21 _ _ ?_
                            refine w_ret ?_
                            exact hret _ _ _ x97_43 _ hE hR (res_run hE rfl (RV.tmp rfl RV.nil)) rfl H

/-- ramble/rambleref01.Put -/
def rambleref01_Put_l1 (self1 : (Int × Sl) → M (Sl)) : (Int × Sl) → M (Sl) := fun s => match s with
  | (x1_5, x5_6) => do
    M.ite (decide (x1_5 ≥ 128)) (do
      let x15_11 ← bdL ty_uint8 1 #[.int .u8 (IntKind.wrap .u8 ((IntKind.wrap .u8 (Int.tmod x1_5 128)) + 128))]
      let x16_12 ← apL ty_uint8 1 1 (#[.int .u8 0] : Array Value) x5_6 x15_11
      self1 (IntKind.wrap .u64 (Int.tdiv x1_5 128), x16_12)
      ) (do
      let x22_14 ← bdL ty_uint8 1 #[.int .u8 (IntKind.wrap .u8 x1_5)]
      let x23_15 ← apL ty_uint8 1 1 (#[.int .u8 0] : Array Value) x5_6 x22_14
      M.pure x23_15
      )
def rambleref01_Put (x0 : Sl) (x1 : Int) : M (Sl) := do
  let x7_3 ← apL ty_uint8 1 1 (#[.int .u8 0] : Array Value) Sl.nil x0
  M.loop rambleref01_Put_l1 (x1, x7_3)
theorem S_rambleref01_Put (x0 : Sl) (x1 : Int) : Sound Go.Proofs.Try.prog 70 #[(x0 : Sl).v, .int .u64 x1] (fun (r : Sl) => (r : Sl).v) (rambleref01_Put x0 x1) := by
  refine sound_of [(0, (x0 : Sl).v), (1, .int .u64 x1)] Go.Proofs.Try.func70 rfl rfl (Nat.le_of_ble_eq_true rfl) (args_of ⟨rfl, rfl, trivial⟩) (fun w0 w Q R a hret hE hR H => ?_)
  unfold rambleref01_Put at H
  refine w_seq (fun K hK_1 => ?_)
  refine t_region ?_
  refine t_val (v := (Sl.nil : Sl).v) rfl rfl hE rfl (r_assign hE rfl) (fun a hE => ?_)
  refine t_nil ?_
  refine hK_1 _ _ ?_
  refine w_seq (fun K hK_2 => ?_)
  refine t_region ?_
  refine t_val (v := (x0 : Sl).v) rfl rfl hE rfl (r_move hE rfl) (fun a hE => ?_)
  refine t_ex (fun x7_3 => (x7_3 : Sl).v) rfl rfl hR (M.unbind H) (fun Q H => ap_run hE rfl rfl ap30 H) (fun x7_3 a w ea hR H => ?_)
  have hE := Env.put_some hE rfl ea; clear ea
  refine t_val (v := (x7_3 : Sl).v) rfl rfl hE rfl (r_assign hE rfl) (fun a hE => ?_)
  refine t_nil ?_
  refine hK_2 _ _ ?_
  refine w_seq (fun K hK_4 => ?_)
  refine w_block ?_
  refine l_loop (fun (s : Int × Sl) => (⟨24, []⟩ : Frm)) (fun (s : Int × Sl) => [(1, .int .u64 s.1), (5, (s.2 : Sl).v)]) H (hE.cut (.cons rfl (.cons rfl Subs.nil))) hR (fun Y self1 hY_7 s a w hE hR H => ?_)
  rcases s with ⟨x1_5, x5_6⟩
  replace hE : Env (⟨24, []⟩ : Frm) a [(1, .int .u64 x1_5), (5, (x5_6 : Sl).v)] := hE
  replace H : (rambleref01_Put_l1 self1 (x1_5, x5_6)).wp w.heap Q := H
  unfold rambleref01_Put_l1 at H
  refine w_seq (fun K hK_8 => ?_)
  refine w_seq (fun K hK_9 => ?_)
  refine t_region ?_
  refine t_val (v := .int .u64 x1_5) rfl rfl hE rfl (r_move hE rfl) (fun a hE => ?_)
  refine t_val (v := .bool (decide (x1_5 ≥ 128))) rfl rfl hE rfl (r_bin hE rfl rfl g_int b_geq) (fun a hE => ?_)
  refine t_nil ?_
  refine hK_9 _ _ ?_
  refine w_cond (decide (x1_5 ≥ 128)) hE rfl (fun hb => ?_) (fun hb => ?_)
  · replace H := M.ite_t hb H
    refine w_skip ?_
    refine hK_8 _ _ ?_
    refine w_block ?_
    refine w_seq (fun K hK_10 => ?_)
    refine t_region ?_
    refine t_val (v := (x5_6 : Sl).v) rfl rfl hE rfl (r_move hE rfl) (fun a hE => ?_)
    refine t_val (v := .int .u64 x1_5) rfl rfl hE rfl (r_move hE rfl) (fun a hE => ?_)
    refine t_val (v := .int .u64 (Int.tmod x1_5 128)) rfl rfl hE rfl (r_bin hE rfl rfl g_int (b_rem ⟨by decide, rfl⟩)) (fun a hE => ?_)
    refine t_val (v := .int .u8 (IntKind.wrap .u8 (Int.tmod x1_5 128))) rfl rfl hE rfl (r_convI hE rfl un106 un5) (fun a hE => ?_)
    refine t_val (v := .int .u8 (IntKind.wrap .u8 ((IntKind.wrap .u8 (Int.tmod x1_5 128)) + 128))) rfl rfl hE rfl (r_bin hE rfl rfl g_int b_add) (fun a hE => ?_)
    obtain ⟨x15_11, qx15_11, H⟩ := H
    refine t_valh (v := (x15_11 : Sl).v) rfl rfl hE rfl hR (r_buildL (cells := #[.int .u8 (IntKind.wrap .u8 ((IntKind.wrap .u8 (Int.tmod x1_5 128)) + 128))]) hE rfl un30 sz5 zr5 rfl rfl qx15_11) (fun a w hE hR hh => ?_)
    replace H := M.at hh H; clear hh
    refine t_ex (fun x16_12 => (x16_12 : Sl).v) rfl rfl hR (M.unbind H) (fun Q H => ap_run hE rfl rfl ap30 H) (fun x16_12 a w ea hR H => ?_)
    have hE := Env.put_some hE rfl ea; clear ea
    refine t_val (v := (x16_12 : Sl).v) rfl rfl hE rfl (r_assign hE rfl) (fun a hE => ?_)
    refine t_nil ?_
    refine hK_10 _ _ ?_
    refine t_region ?_
    refine t_val (v := .int .u64 x1_5) rfl rfl hE rfl (r_move hE rfl) (fun a hE => ?_)
    refine t_val (v := .int .u64 (IntKind.wrap .u64 (Int.tdiv x1_5 128))) rfl rfl hE rfl (r_bin hE rfl rfl g_int (b_quo ⟨by decide, rfl⟩)) (fun a hE => ?_)
    refine t_val (v := .int .u64 (IntKind.wrap .u64 (Int.tdiv x1_5 128))) rfl rfl hE rfl (r_assign hE rfl) (fun a hE => ?_)
    refine t_nil ?_
    exact hY_7 (IntKind.wrap .u64 (Int.tdiv x1_5 128), x16_12) _ _ (hE.cut (.cons rfl (.cons rfl Subs.nil))) hR H
  · replace H := M.ite_f hb H
    refine w_exit ?_
    refine Xu.same ?_
    refine hK_4 _ _ ?_
    refine w_seq (fun K hK_13 => ?_)
    refine t_region ?_
    refine t_val (v := (x5_6 : Sl).v) rfl rfl hE rfl (r_move hE rfl) (fun a hE => ?_)
    refine t_val (v := .int .u64 x1_5) rfl rfl hE rfl (r_move hE rfl) (fun a hE => ?_)
    refine t_val (v := .int .u8 (IntKind.wrap .u8 x1_5)) rfl rfl hE rfl (r_convI hE rfl un106 un5) (fun a hE => ?_)
    obtain ⟨x22_14, qx22_14, H⟩ := H
    refine t_valh (v := (x22_14 : Sl).v) rfl rfl hE rfl hR (r_buildL (cells := #[.int .u8 (IntKind.wrap .u8 x1_5)]) hE rfl un30 sz5 zr5 rfl rfl qx22_14) (fun a w hE hR hh => ?_)
    replace H := M.at hh H; clear hh
    refine t_ex (fun x23_15 => (x23_15 : Sl).v) rfl rfl hR (M.unbind H) (fun Q H => ap_run hE rfl rfl ap30 H) (fun x23_15 a w ea hR H => ?_)
    have hE := Env.put_some hE rfl ea; clear ea
    refine t_val (v := (x23_15 : Sl).v) rfl rfl hE rfl (r_assign hE rfl) (fun a hE => ?_)
    refine t_nil ?_
    refine hK_13 _ _ ?_
    refine w_ret ?_
    exact hret _ _ _ x23_15 _ hE hR (res_run hE rfl (RV.tmp rfl RV.nil)) rfl H

/-- ramble/rambleref06.commit -/
theorem tb49_5 : tabAt Go.Proofs.Try.f49 5 [[], [], [], [1, 2], [3], [4], [5], [0, 6], [], [], [8, 9], [10], [7, 11, 7], [12, 12, 0, 1, 2, 3, 4, 5, 6, 7, 8, 9, 10, 11, 12]] [[], [], [], [1, 2], [3], [4], [5], [0, 6], [], [], [8, 9], [10], [7, 11], [0, 12]] [[], [], [], [1, 2], [1, 2, 3], [1, 2, 3, 4], [1, 2, 3, 4, 5], [0, 1, 2, 3, 4, 5, 6], [], [], [8, 9], [8, 9, 10], [0, 1, 2, 3, 4, 5, 6, 7, 8, 9, 10, 11], [0, 1, 2, 3, 4, 5, 6, 7, 8, 9, 10, 11, 12]] = true := by kernel_rfl
def rambleref06_commit_l1 (c0_8 : Sl) (self1 : (Sl × Int) → M (Sl)) : (Sl × Int) → M (Sl) := fun s => match s with
  | (x3_6, x4_7) => do
    M.ite (decide (x4_7 < (c0_8.len : Int))) (do
      let x18_13 ← ixL c0_8 x4_7 1
      let x25_14 ← ixL c0_8 x4_7 1
      let x19_15 ← ldL x18_13
      let x26_16 ← ldL x25_14
      let x22_17 ← rambleref01_Put x3_6 (IntKind.wrap .u64 (x19_15.len : Int))
      chk (fun h : Heap => (hcell h x18_13 = some ((x19_15 : Sl).v)) ∧ (hcell h x25_14 = some ((x26_16 : Sl).v)))
      let x27_18 ← apL ty_uint8 1 1 (#[.int .u8 0] : Array Value) x22_17 x26_16
      self1 (x27_18, IntKind.wrap .i64 (x4_7 + 1))
      ) (do
      M.pure x3_6
      )
def rambleref06_commit (x0 : Sl) : M (Sl) := do
  let x8_3 ← rambleref01_Put Sl.nil (IntKind.wrap .u64 (x0.len : Int))
  M.loop (rambleref06_commit_l1 x0) (x8_3, 0)
theorem S_rambleref06_commit (x0 : Sl) : Sound Go.Proofs.Try.prog 49 #[(x0 : Sl).v] (fun (r : Sl) => (r : Sl).v) (rambleref06_commit x0) := by
  refine sound_of [(0, (x0 : Sl).v)] Go.Proofs.Try.func49 rfl rfl (Nat.le_of_ble_eq_true rfl) (args_of ⟨rfl, trivial⟩) (fun w0 w Q R a hret hE hR H => ?_)
  unfold rambleref06_commit at H
  refine w_seq (fun K hK_1 => ?_)
  refine t_region ?_
  refine t_val (v := (Sl.nil : Sl).v) rfl rfl hE rfl (r_assign hE rfl) (fun a hE => ?_)
  refine t_nil ?_
  refine hK_1 _ _ ?_
  refine w_seq (fun K hK_2 => ?_)
  refine t_region ?_
  refine t_val (v := (x0 : Sl).v) rfl rfl hE rfl (r_move hE rfl) (fun a hE => ?_)
  refine t_val (v := .int .i64 (x0.len : Int)) rfl rfl hE rfl (r_len hE rfl 30 un32) (fun a hE => ?_)
  refine t_val (v := .int .u64 (IntKind.wrap .u64 (x0.len : Int))) rfl rfl hE rfl (r_convI hE rfl un3 un106) (fun a hE => ?_)
  refine t_call hE hR cl_rambleref01_Put rfl (S_rambleref01_Put Sl.nil (IntKind.wrap .u64 (x0.len : Int))) (M.unbind H) (fun x8_3 a w ea hR H => ?_)
  have hE := Env.put_some hE rfl ea; clear ea
  refine t_val (v := (x8_3 : Sl).v) rfl rfl hE rfl (r_assign hE rfl) (fun a hE => ?_)
  refine t_nil ?_
  refine hK_2 _ _ ?_
  refine w_seq (fun K hK_4 => ?_)
  refine w_seq (fun K hK_5 => ?_)
  refine t_region ?_
  refine t_val (v := .int .i64 0) rfl rfl hE rfl (r_assign hE rfl) (fun a hE => ?_)
  refine t_nil ?_
  refine hK_5 _ _ ?_
  refine w_block ?_
  refine l_loop (fun (s : Sl × Int) => (⟨29, []⟩ : Frm)) (fun (s : Sl × Int) => [(0, (x0 : Sl).v), (3, (s.1 : Sl).v), (4, .int .i64 s.2)]) H (hE.cut (.cons rfl (.cons rfl (.cons rfl Subs.nil)))) hR (fun Y self1 hY_9 s a w hE hR H => ?_)
  rcases s with ⟨x3_6, x4_7⟩
  replace hE : Env (⟨29, []⟩ : Frm) a [(0, (x0 : Sl).v), (3, (x3_6 : Sl).v), (4, .int .i64 x4_7)] := hE
  replace H : (rambleref06_commit_l1 x0 self1 (x3_6, x4_7)).wp w.heap Q := H
  unfold rambleref06_commit_l1 at H
  refine w_seq (fun K hK_10 => ?_)
  refine w_seq (fun K hK_11 => ?_)
  refine t_region ?_
  refine t_val (v := .int .i64 x4_7) rfl rfl hE rfl (r_move hE rfl) (fun a hE => ?_)
  refine t_val (v := (x0 : Sl).v) rfl rfl hE rfl (r_move hE rfl) (fun a hE => ?_)
  refine t_val (v := .int .i64 (x0.len : Int)) rfl rfl hE rfl (r_len hE rfl 30 un32) (fun a hE => ?_)
  refine t_val (v := .bool (decide (x4_7 < (x0.len : Int)))) rfl rfl hE rfl (r_bin hE rfl rfl g_int b_lss) (fun a hE => ?_)
  refine t_nil ?_
  refine hK_11 _ _ ?_
  refine w_cond (decide (x4_7 < (x0.len : Int))) hE rfl (fun hb => ?_) (fun hb => ?_)
  · replace H := M.ite_t hb H
    refine w_skip ?_
    refine hK_10 _ _ ?_
    refine w_seq (fun K hK_12 => ?_)
    refine w_block ?_
    obtain ⟨x18_13, qx18_13, H⟩ := H
    obtain ⟨x25_14, qx25_14, H⟩ := H
    obtain ⟨x19_15, qx19_15, H⟩ := H
    obtain ⟨x26_16, qx26_16, H⟩ := H
    have hT := tab_of tb49_5 rfl rfl
    refine d_start (fun w : World => (fun h : Heap => (hcell h x18_13 = some ((x19_15 : Sl).v)) ∧ (hcell h x25_14 = some ((x26_16 : Sl).v))) w.heap) [12, 13] #[false, false, false, false, false, false, false, false, false, false, false, false, false, false] mo hR rfl rfl (fun w' e => by rw [e]; exact ⟨qx19_15, qx26_16⟩) (fun w hh hR hs => ?_)
    replace H := M.at hh H; clear hh
    refine d_pureg (i := 0) (v := (x3_6 : Sl).v) #[true, false, false, false, false, false, false, false, false, false, false, false, false, false] rfl rfl hT (by kernel_rfl) hE rfl (wanted_none rfl) (fun w => r_move hE rfl) (fun a hE => ?_)
    refine d_pureg (i := 1) (v := (x0 : Sl).v) #[true, true, false, false, false, false, false, false, false, false, false, false, false, false] rfl rfl hT (by kernel_rfl) hE rfl (wanted_none rfl) (fun w => r_move hE rfl) (fun a hE => ?_)
    refine d_pureg (i := 2) (v := .int .i64 x4_7) #[true, true, true, false, false, false, false, false, false, false, false, false, false, false] rfl rfl hT (by kernel_rfl) hE rfl (wanted_none rfl) (fun w => r_move hE rfl) (fun a hE => ?_)
    refine d_pureg (i := 3) (v := .pointer (some x18_13)) #[true, true, true, true, false, false, false, false, false, false, false, false, false, false] rfl rfl hT (by kernel_rfl) hE rfl (wanted_none rfl) (fun w => r_indexAddrL hE rfl rfl un32 sz30 qx18_13) (fun a hE => ?_)
    refine d_pureg (i := 8) (v := (x0 : Sl).v) #[true, true, true, true, false, false, false, false, true, false, false, false, false, false] rfl rfl hT (by kernel_rfl) hE rfl (wanted_none rfl) (fun w => r_move hE rfl) (fun a hE => ?_)
    refine d_pureg (i := 9) (v := .int .i64 x4_7) #[true, true, true, true, false, false, false, false, true, true, false, false, false, false] rfl rfl hT (by kernel_rfl) hE rfl (wanted_none rfl) (fun w => r_move hE rfl) (fun a hE => ?_)
    refine d_pureg (i := 10) (v := .pointer (some x25_14)) #[true, true, true, true, false, false, false, false, true, true, true, false, false, false] rfl rfl hT (by kernel_rfl) hE rfl (wanted_none rfl) (fun w => r_indexAddrL hE rfl rfl un32 sz30 qx25_14) (fun a hE => ?_)
    refine d_read (i := 4) (v := (x19_15 : Sl).v) #[true, true, true, true, true, false, false, false, true, true, true, false, false, false] rfl rfl hT (by kernel_rfl) hE rfl (wanted_none rfl) hs (fun w s => r_load hE rfl sc30 s.1) (fun a hE => ?_)
    refine d_pureg (i := 5) (v := .int .i64 (x19_15.len : Int)) #[true, true, true, true, true, true, false, false, true, true, true, false, false, false] rfl rfl hT (by kernel_rfl) hE rfl (wanted_none rfl) (fun w => r_len hE rfl 5 un30) (fun a hE => ?_)
    refine d_pureg (i := 6) (v := .int .u64 (IntKind.wrap .u64 (x19_15.len : Int))) #[true, true, true, true, true, true, true, false, true, true, true, false, false, false] rfl rfl hT (by kernel_rfl) hE rfl (wanted_none rfl) (fun w => r_convI hE rfl un3 un106) (fun a hE => ?_)
    refine d_read (i := 11) (v := (x26_16 : Sl).v) #[true, true, true, true, true, true, true, false, true, true, true, true, false, false] rfl rfl hT (by kernel_rfl) hE rfl (wanted_none rfl) hs (fun w s => r_load hE rfl sc30 s.2) (fun a hE => ?_)
    refine d_call (i := 7) #[true, true, true, true, true, true, true, true, true, true, true, true, false, false] rfl rfl rfl hT (by kernel_rfl) rfl hE hR (wanted_none rfl) cl_rambleref01_Put rfl (S_rambleref01_Put x3_6 (IntKind.wrap .u64 (x19_15.len : Int))) (M.unbind H) (fun r h H w' e => by obtain ⟨_, sA, H⟩ := H; rw [e]; exact sA) (fun x22_17 a w ea hR H hs => ?_)
    obtain ⟨_, sA, H⟩ := H; clear sA
    have hE := Env.put_some hE rfl ea; clear ea
    refine d_exl (i := 12) (fun x27_18 => (x27_18 : Sl).v) #[true, true, true, true, true, true, true, true, true, true, true, true, true, false] rfl rfl hT (by kernel_rfl) rfl hR (wanted_none rfl) (M.unbind H) (fun Q H => ap_run hE rfl rfl ap30 H) (fun x27_18 a w ea hR H => ?_)
    have hE := Env.put_some hE rfl ea; clear ea
    refine d_pureg (i := 13) (v := (x27_18 : Sl).v) #[true, true, true, true, true, true, true, true, true, true, true, true, true, true] rfl rfl hT (by kernel_rfl) hE rfl (wanted_none rfl) (fun w => r_assign hE rfl) (fun a hE => ?_)
    refine d_done hT (by kernel_rfl) ?_
    refine hK_12 _ _ ?_
    refine t_region ?_
    refine t_val (v := .int .i64 x4_7) rfl rfl hE rfl (r_move hE rfl) (fun a hE => ?_)
    refine t_val (v := .int .i64 (IntKind.wrap .i64 (x4_7 + 1))) rfl rfl hE rfl (r_bin hE rfl rfl g_int b_add) (fun a hE => ?_)
    refine t_val (v := .int .i64 (IntKind.wrap .i64 (x4_7 + 1))) rfl rfl hE rfl (r_assign hE rfl) (fun a hE => ?_)
    refine t_nil ?_
    exact hY_9 (x27_18, IntKind.wrap .i64 (x4_7 + 1)) _ _ (hE.cut (.cons rfl (.cons rfl (.cons rfl Subs.nil)))) hR H
  · replace H := M.ite_f hb H
    refine w_exit ?_
    refine Xu.same ?_
    refine hK_4 _ _ ?_
    refine w_seq (fun K hK_19 => ?_)
    refine t_region ?_
    refine t_val (v := (x3_6 : Sl).v) rfl rfl hE rfl (r_move hE rfl) (fun a hE => ?_)
    refine t_val (v := (x3_6 : Sl).v) rfl rfl hE rfl (r_assign hE rfl) (fun a hE => ?_)
    refine t_nil ?_
    refine hK_19 _ _ ?_
    refine w_ret ?_
    exact hret _ _ _ x3_6 _ hE hR (res_run hE rfl (RV.tmp rfl RV.nil)) rfl H

end Gx
