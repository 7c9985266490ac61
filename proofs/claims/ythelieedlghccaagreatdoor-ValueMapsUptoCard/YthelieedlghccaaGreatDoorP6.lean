/- Printed by program: Go functions as Lean programs, each tied to its code. No condition. -/
import Derived.Test.YthelieedlghccaaGreatDoorP0
import Derived.Test.YthelieedlghccaaGreatDoorP1
import Derived.Test.YthelieedlghccaaGreatDoorP2
import Derived.Test.YthelieedlghccaaGreatDoorP3
import Derived.Test.YthelieedlghccaaGreatDoorP4
import Derived.Test.YthelieedlghccaaGreatDoorP5
set_option linter.unusedVariables false
set_option linter.unusedSimpArgs false
namespace Gx
open Go
set_option linter.unusedVariables false
set_option maxRecDepth 100000
def value_reader_escaped_j2 (c0_28 : Option Addr) (c4_29 : Int) (c5_30 : Int) : M (Value ⊕ (Int)):=do
  let x86_32 ← nilP c0_28
  let x88_33 ← ldI .i64 ((x86_32).add 1)
  let x90_34 ← nilP c0_28
  stV ((x90_34).add 1) (.int .i64 (IntKind.wrap .i64 (x88_33 + 1)))
  M.pure (.inr (IntKind.wrap .u8 (iOr .i64 (iShl .i64 c4_29 4) c5_30)))
def value_reader_escaped_j3 (c0_38 : Option Addr) (c4_39 : Int) (c5_40 : Int) (x82_37 : Bool) : M (Value ⊕ (Int)):=do
  M.ite x82_37 (do
    thr (value_reader_fail c0_38) fun x84_41=>do
      value_reader_escaped_j2 c0_38 c4_39 c5_40
    ) (do
    value_reader_escaped_j2 c0_38 c4_39 c5_40
    )
noncomputable def ro218_11 : Array Oper:=opsOf Go.Proofs.Tryz.f218 11
def tE218_11 : List (List Nat):=[[],[0],[1],[2],[],[4],[5],[6],[7],[3,8],[9],[10],[11,10],[10,12],[13,10],[14],[15,14],[16,14,14],[17],[18,17],[17,19,14],[14,20]]
def tC218_11 : List (List Nat):=[[],[0],[1],[2],[],[4],[5],[6],[7],[3,8],[9],[10],[10,11],[10,12],[13],[14],[14,15],[14,16],[17],[17,18],[14,17,19],[14,20]]
def tW218_11 : List (List Nat):=[[],[0],[0,1],[0,1,2],[],[4],[4,5],[4,5,6],[4,5,6,7],[0,1,2,3,4,5,6,7,8],[0,1,2,3,4,5,6,7,8,9],[0,1,2,3,4,5,6,7,8,9,10],[0,1,2,3,4,5,6,7,8,9,10,11],[0,1,2,3,4,5,6,7,8,9,10,11,12],[0,1,2,3,4,5,6,7,8,9,10,11,12,13],[0,1,2,3,4,5,6,7,8,9,10,11,12,13,14],[0,1,2,3,4,5,6,7,8,9,10,11,12,13,14,15],[0,1,2,3,4,5,6,7,8,9,10,11,12,13,14,15,16],[0,1,2,3,4,5,6,7,8,9,10,11,12,13,14,15,16,17],[0,1,2,3,4,5,6,7,8,9,10,11,12,13,14,15,16,17,18],[0,1,2,3,4,5,6,7,8,9,10,11,12,13,14,15,16,17,18,19],[0,1,2,3,4,5,6,7,8,9,10,11,12,13,14,15,16,17,18,19,20]]
theorem tb218_11 : tabAt Go.Proofs.Tryz.f218 11 tE218_11 tC218_11 tW218_11 = true:=by kernel_rfl
theorem tb218_11m : tabMB 22 tE218_11 tC218_11 tW218_11 [0,1,2,4,0,16,32,64,128,264,512,1024,3072,5120,9216,16384,49152,81920,131072,393216,671744,1064960] [0,1,2,4,0,16,32,64,128,264,512,1024,3072,5120,8192,16384,49152,81920,131072,393216,671744,1064960] [0,1,3,7,0,16,48,112,240,511,1023,2047,4095,8191,16383,32767,65535,131071,262143,524287,1048575,2097151] = true:=by kernel_rfl
def value_reader_escaped_j1 (c0_18 : Option Addr) (c4_19 : Int) : M (Value ⊕ (Int)):=do
  let x52_21 ← nilP c0_18
  let x54_22 ← ldI .i64 ((x52_21).add 1)
  let x56_23 ← nilP c0_18
  stV ((x56_23).add 1) (.int .i64 (IntKind.wrap .i64 (x54_22 + 1)))
  let x59_26 ← value_reader_here c0_18
  let x60_27 ← strings_IndexByte (⟨#[48,49,50,51,52,53,54,55,56,57,97,98,99,100,101,102]⟩ : ByteArray) x59_26
  let x62_42 ← nilP c0_18
  let x66_43 ← nilP c0_18
  let x64_44 ← ldI .i64 ((x62_42).add 1)
  let x68_45 ← ldS ((x66_43).add 0)
  M.ite (decide (x64_44 ≥ (x68_45.size : Int))) (do
    value_reader_escaped_j3 c0_18 c4_19 x60_27 true
    ) (do
    M.ite (decide (x60_27 < 0)) (do
      value_reader_escaped_j3 c0_18 c4_19 x60_27 true
      ) (do
      M.ite (c4_19 == 7) (do
        value_reader_escaped_j3 c0_18 c4_19 x60_27 (decide (x60_27 < 15))
        ) (do
        value_reader_escaped_j3 c0_18 c4_19 x60_27 false
        )
      )
    )
def value_reader_escaped_j4 (c0_50 : Option Addr) (c4_51 : Int) (x48_49 : Bool) : M (Value ⊕ (Int)):=do
  M.ite x48_49 (do
    thr (value_reader_fail c0_50) fun x50_52=>do
      value_reader_escaped_j1 c0_50 c4_51
    ) (do
    value_reader_escaped_j1 c0_50 c4_51
    )
noncomputable def ro218_7 : Array Oper:=opsOf Go.Proofs.Tryz.f218 7
def tE218_7 : List (List Nat):=[[],[0],[1],[2],[],[4],[5],[6],[7],[3,8],[9],[10],[11,10],[10,12],[13,10],[14],[15,14],[16,14,14],[17],[18,17],[17,19,14],[14,20]]
def tC218_7 : List (List Nat):=[[],[0],[1],[2],[],[4],[5],[6],[7],[3,8],[9],[10],[10,11],[10,12],[13],[14],[14,15],[14,16],[17],[17,18],[14,17,19],[14,20]]
def tW218_7 : List (List Nat):=[[],[0],[0,1],[0,1,2],[],[4],[4,5],[4,5,6],[4,5,6,7],[0,1,2,3,4,5,6,7,8],[0,1,2,3,4,5,6,7,8,9],[0,1,2,3,4,5,6,7,8,9,10],[0,1,2,3,4,5,6,7,8,9,10,11],[0,1,2,3,4,5,6,7,8,9,10,11,12],[0,1,2,3,4,5,6,7,8,9,10,11,12,13],[0,1,2,3,4,5,6,7,8,9,10,11,12,13,14],[0,1,2,3,4,5,6,7,8,9,10,11,12,13,14,15],[0,1,2,3,4,5,6,7,8,9,10,11,12,13,14,15,16],[0,1,2,3,4,5,6,7,8,9,10,11,12,13,14,15,16,17],[0,1,2,3,4,5,6,7,8,9,10,11,12,13,14,15,16,17,18],[0,1,2,3,4,5,6,7,8,9,10,11,12,13,14,15,16,17,18,19],[0,1,2,3,4,5,6,7,8,9,10,11,12,13,14,15,16,17,18,19,20]]
theorem tb218_7 : tabAt Go.Proofs.Tryz.f218 7 tE218_7 tC218_7 tW218_7 = true:=by kernel_rfl
theorem tb218_7m : tabMB 22 tE218_7 tC218_7 tW218_7 [0,1,2,4,0,16,32,64,128,264,512,1024,3072,5120,9216,16384,49152,81920,131072,393216,671744,1064960] [0,1,2,4,0,16,32,64,128,264,512,1024,3072,5120,8192,16384,49152,81920,131072,393216,671744,1064960] [0,1,3,7,0,16,48,112,240,511,1023,2047,4095,8191,16383,32767,65535,131071,262143,524287,1048575,2097151] = true:=by kernel_rfl
def value_reader_escaped (x0 : Option Addr) : M (Value ⊕ (Int)):=do
  let x7_4 ← value_reader_here x0
  let x13_6 ← M.ite (x7_4 == 39) (do
    M.pure true
    ) (do
    M.pure (x7_4 == 92)
    )
  M.ite x13_6 (do
    let x15_8 ← nilP x0
    let x17_9 ← ldI .i64 ((x15_8).add 1)
    let x19_10 ← nilP x0
    stV ((x19_10).add 1) (.int .i64 (IntKind.wrap .i64 (x17_9 + 1)))
    M.pure (.inr x7_4)
    ) (do
    thr (value_reader_must x0 (⟨#[120]⟩ : ByteArray)) fun x23_14=>do
      let x25_16 ← value_reader_here x0
      let x26_17 ← strings_IndexByte (⟨#[48,49,50,51,52,53,54,55,56,57,97,98,99,100,101,102]⟩ : ByteArray) x25_16
      let x28_53 ← nilP x0
      let x32_54 ← nilP x0
      let x30_55 ← ldI .i64 ((x28_53).add 1)
      let x34_56 ← ldS ((x32_54).add 0)
      M.ite (decide (x30_55 ≥ (x34_56.size : Int))) (do
        value_reader_escaped_j4 x0 x26_17 true
        ) (do
        M.ite (decide (x26_17 < 0)) (do
          value_reader_escaped_j4 x0 x26_17 true
          ) (do
          M.ite (decide (x26_17 > 1)) (do
            value_reader_escaped_j4 x0 x26_17 (decide (x26_17 < 7))
            ) (do
            value_reader_escaped_j4 x0 x26_17 false
            )
          )
        )
    )
theorem S_value_reader_escaped (x0 : Option Addr) : SoundX Go.Proofs.Tryz.prog 218 #[.pointer x0] (fun (r : Int)=>.int .u8 r) (value_reader_escaped x0):=by
  refine sound_ofX [(0,.pointer x0)] Go.Proofs.Tryz.func218 rfl rfl (Nat.le_of_ble_eq_true rfl) (args_of ⟨rfl,trivial⟩) (fun w0 w Q R X a hret hthr hE hR H=>?_)
  unfold value_reader_escaped at H
  refine w_seq (fun K hK_1=>?_)
  refine t_region ?_
  refine t_val (v:=.int .u8 0) rfl rfl hE rfl (r_assign hE rfl) (fun a hE=>?_)
  refine t_nil ?_
  refine hK_1 _ _ ?_
  refine w_seq (fun K hK_2=>?_)
  refine w_seq (fun K hK_3=>?_)
  refine t_region ?_
  refine t_val (v:=.pointer x0) rfl rfl hE rfl (r_move hE rfl) (fun a hE=>?_)
  refine t_call hE hR cl_value_reader_here rfl (S_value_reader_here x0) (M.unbind H) (fun x7_4 a w ea hR H=>?_)
  have hE:=Env.put_some hE rfl ea; clear ea
  refine t_val (v:=.int .u8 x7_4) rfl rfl hE rfl (r_assign hE rfl) (fun a hE=>?_)
  refine t_nil ?_
  refine hK_3 _ _ ?_
  refine w_seq (fun K hK_5=>?_)
  refine t_region ?_
  refine t_val (v:=.int .u8 x7_4) rfl rfl hE rfl (r_move hE rfl) (fun a hE=>?_)
  refine t_val (v:=.bool (x7_4 == 39)) rfl rfl hE rfl (r_bin hE rfl rfl g_int b_eql) (fun a hE=>?_)
  refine t_val (v:=.bool (x7_4 == 39)) rfl rfl hE rfl (r_move hE rfl) (fun a hE=>?_)
  refine t_grp (n:=(⟨97,[]⟩ : Frm)) (w0:=w0) 3 (fun x13_6 : Bool=>[(0,.pointer x0),(3,.int .u8 x7_4),(13,.bool x13_6)]) (M.unbind H) (fun Kr hKr H=>?_) ?_
  · rcases bool_em (x7_4 == 39) with hb | hb
    · replace H:=M.ite_t hb H
      have hE:=hE.reb 10 (x7_4 == 39) true hb rfl
      refine t_off rfl hE rfl rfl rfl (fun a ea=>?_)
      have hE:=Env.put_some hE rfl ea; clear ea
      refine t_off rfl hE rfl rfl rfl (fun a ea=>?_)
      have hE:=Env.put_some hE rfl ea; clear ea
      refine t_val rfl rfl hE rfl (r_pick_t hE rfl rfl) (fun a hE=>?_)
      refine t_nil ?_
      exact hKr _ _ _ (hE.cut (.cons rfl (.cons rfl (.cons rfl Subs.nil)))) hR H
    · replace H:=M.ite_f hb H
      have hE:=hE.reb 10 (x7_4 == 39) false hb rfl
      refine t_on rfl hE rfl rfl rfl ?_
      refine t_val (v:=.int .u8 x7_4) rfl rfl hE rfl (r_move hE rfl) (fun a hE=>?_)
      refine t_on rfl hE rfl rfl rfl ?_
      refine t_val (v:=.bool (x7_4 == 92)) rfl rfl hE rfl (r_bin hE rfl rfl g_int b_eql) (fun a hE=>?_)
      refine t_val rfl rfl hE rfl (r_pick_f hE rfl rfl) (fun a hE=>?_)
      refine t_nil ?_
      exact hKr _ _ _ (hE.cut (.cons rfl (.cons rfl (.cons rfl Subs.nil)))) hR H
  · intro x13_6 a w hE hR H
    refine t_nil ?_
    refine hK_5 _ _ ?_
    refine w_cond x13_6 hE rfl (fun hb=>?_) (fun hb=>?_)
    · replace H:=M.ite_t hb H
      refine w_seq (fun K hK_7=>?_)
      refine t_region ?_
      refine t_val (v:=.pointer x0) rfl rfl hE rfl (r_move hE rfl) (fun a hE=>?_)
      obtain ⟨x15_8,qx15_8,H⟩:=H
      refine t_val (v:=.pointer (some x15_8)) rfl rfl hE rfl (r_nilCheck hE (hx_eq rfl (congrArg Value.pointer qx15_8))) (fun a hE=>?_)
      refine t_val (v:=.pointer (some ((x15_8).add 1))) rfl rfl hE rfl (r_fieldAddr hE rfl fd146_1) (fun a hE=>?_)
      obtain ⟨x17_9,qx17_9,H⟩:=H
      refine t_val (v:=.int .i64 x17_9) rfl rfl hE rfl (r_load hE rfl sc3 qx17_9) (fun a hE=>?_)
      refine t_val (v:=.int .i64 (IntKind.wrap .i64 (x17_9 + 1))) rfl rfl hE rfl (r_bin hE rfl rfl g_int b_add) (fun a hE=>?_)
      obtain ⟨x19_10,qx19_10,H⟩:=H
      refine t_val (v:=.pointer (some x19_10)) rfl rfl hE rfl (r_nilCheck hE (hx_eq rfl (congrArg Value.pointer qx19_10))) (fun a hE=>?_)
      refine t_val (v:=.pointer (some ((x19_10).add 1))) rfl rfl hE rfl (r_fieldAddr hE rfl fd146_1) (fun a hE=>?_)
      obtain ⟨u_11,qu_11,H⟩:=H
      refine t_sth rfl rfl hE hR (r_store hE rfl rfl sz3 qu_11) (fun a w hE hR hh=>?_)
      replace H:=M.at hh H; clear hh
      refine t_nil ?_
      refine hK_7 _ _ ?_
      refine w_seq (fun K hK_12=>?_)
      refine t_region ?_
      refine t_val (v:=.int .u8 x7_4) rfl rfl hE rfl (r_move hE rfl) (fun a hE=>?_)
      refine t_val (v:=.int .u8 x7_4) rfl rfl hE rfl (r_assign hE rfl) (fun a hE=>?_)
      refine t_nil ?_
      refine hK_12 _ _ ?_
      refine w_ret ?_
      exact hret _ _ _ x7_4 _ hE hR (res_run hE rfl (RV.tmp rfl RV.nil)) rfl H
    · replace H:=M.ite_f hb H
      refine w_skip ?_
      refine hK_2 _ _ ?_
      refine w_seq (fun K hK_13=>?_)
      refine t_region ?_
      refine t_val (v:=.pointer x0) rfl rfl hE rfl (r_move hE rfl) (fun a hE=>?_)
      refine t_callX hE hR cl_value_reader_must rfl (S_value_reader_must x0 (⟨#[120]⟩ : ByteArray)) H (fun _ _ hR HQ=>hthr _ _ hR HQ) (fun x23_14 a w ea hR H=>?_)
      have hE:=Env.put_some hE rfl ea; clear ea
      refine t_nil ?_
      refine hK_13 _ _ ?_
      refine w_seq (fun K hK_15=>?_)
      refine t_region ?_
      refine t_val (v:=.pointer x0) rfl rfl hE rfl (r_move hE rfl) (fun a hE=>?_)
      refine t_call hE hR cl_value_reader_here rfl (S_value_reader_here x0) (M.unbind H) (fun x25_16 a w ea hR H=>?_)
      have hE:=Env.put_some hE rfl ea; clear ea
      refine t_call hE hR cl_strings_IndexByte rfl (S_strings_IndexByte (⟨#[48,49,50,51,52,53,54,55,56,57,97,98,99,100,101,102]⟩ : ByteArray) x25_16) (M.unbind H) (fun x26_17 a w ea hR H=>?_)
      have hE:=Env.put_some hE rfl ea; clear ea
      refine t_val (v:=.int .i64 x26_17) rfl rfl hE rfl (r_assign hE rfl) (fun a hE=>?_)
      refine t_nil ?_
      refine hK_15 _ _ ?_
      refine w_seq_join (fun a w=>Env (⟨97,[]⟩ : Frm) a [(0,.pointer x0),(4,.int .i64 x26_17)] ∧ Rest w0 w ∧ (value_reader_escaped_j1 x0 x26_17).wp w.heap Q) ?_ ?_
      · rintro a w ⟨hE,hR,H⟩
        unfold value_reader_escaped_j1 at H
        refine w_seq (fun K hK_20=>?_)
        refine t_region ?_
        refine t_val (v:=.pointer x0) rfl rfl hE rfl (r_move hE rfl) (fun a hE=>?_)
        obtain ⟨x52_21,qx52_21,H⟩:=H
        refine t_val (v:=.pointer (some x52_21)) rfl rfl hE rfl (r_nilCheck hE (hx_eq rfl (congrArg Value.pointer qx52_21))) (fun a hE=>?_)
        refine t_val (v:=.pointer (some ((x52_21).add 1))) rfl rfl hE rfl (r_fieldAddr hE rfl fd146_1) (fun a hE=>?_)
        obtain ⟨x54_22,qx54_22,H⟩:=H
        refine t_val (v:=.int .i64 x54_22) rfl rfl hE rfl (r_load hE rfl sc3 qx54_22) (fun a hE=>?_)
        refine t_val (v:=.int .i64 (IntKind.wrap .i64 (x54_22 + 1))) rfl rfl hE rfl (r_bin hE rfl rfl g_int b_add) (fun a hE=>?_)
        obtain ⟨x56_23,qx56_23,H⟩:=H
        refine t_val (v:=.pointer (some x56_23)) rfl rfl hE rfl (r_nilCheck hE (hx_eq rfl (congrArg Value.pointer qx56_23))) (fun a hE=>?_)
        refine t_val (v:=.pointer (some ((x56_23).add 1))) rfl rfl hE rfl (r_fieldAddr hE rfl fd146_1) (fun a hE=>?_)
        obtain ⟨u_24,qu_24,H⟩:=H
        refine t_sth rfl rfl hE hR (r_store hE rfl rfl sz3 qu_24) (fun a w hE hR hh=>?_)
        replace H:=M.at hh H; clear hh
        refine t_nil ?_
        refine hK_20 _ _ ?_
        refine w_seq (fun K hK_25=>?_)
        refine t_region ?_
        refine t_val (v:=.pointer x0) rfl rfl hE rfl (r_move hE rfl) (fun a hE=>?_)
        refine t_call hE hR cl_value_reader_here rfl (S_value_reader_here x0) (M.unbind H) (fun x59_26 a w ea hR H=>?_)
        have hE:=Env.put_some hE rfl ea; clear ea
        refine t_call hE hR cl_strings_IndexByte rfl (S_strings_IndexByte (⟨#[48,49,50,51,52,53,54,55,56,57,97,98,99,100,101,102]⟩ : ByteArray) x59_26) (M.unbind H) (fun x60_27 a w ea hR H=>?_)
        have hE:=Env.put_some hE rfl ea; clear ea
        refine t_val (v:=.int .i64 x60_27) rfl rfl hE rfl (r_assign hE rfl) (fun a hE=>?_)
        refine t_nil ?_
        refine hK_25 _ _ ?_
        refine w_seq_join (fun a w=>Env (⟨97,[]⟩ : Frm) a [(0,.pointer x0),(4,.int .i64 x26_17),(5,.int .i64 x60_27)] ∧ Rest w0 w ∧ (value_reader_escaped_j2 x0 x26_17 x60_27).wp w.heap Q) ?_ ?_
        · rintro a w ⟨hE,hR,H⟩
          unfold value_reader_escaped_j2 at H
          refine w_seq (fun K hK_31=>?_)
          refine t_region ?_
          refine t_val (v:=.pointer x0) rfl rfl hE rfl (r_move hE rfl) (fun a hE=>?_)
          obtain ⟨x86_32,qx86_32,H⟩:=H
          refine t_val (v:=.pointer (some x86_32)) rfl rfl hE rfl (r_nilCheck hE (hx_eq rfl (congrArg Value.pointer qx86_32))) (fun a hE=>?_)
          refine t_val (v:=.pointer (some ((x86_32).add 1))) rfl rfl hE rfl (r_fieldAddr hE rfl fd146_1) (fun a hE=>?_)
          obtain ⟨x88_33,qx88_33,H⟩:=H
          refine t_val (v:=.int .i64 x88_33) rfl rfl hE rfl (r_load hE rfl sc3 qx88_33) (fun a hE=>?_)
          refine t_val (v:=.int .i64 (IntKind.wrap .i64 (x88_33 + 1))) rfl rfl hE rfl (r_bin hE rfl rfl g_int b_add) (fun a hE=>?_)
          obtain ⟨x90_34,qx90_34,H⟩:=H
          refine t_val (v:=.pointer (some x90_34)) rfl rfl hE rfl (r_nilCheck hE (hx_eq rfl (congrArg Value.pointer qx90_34))) (fun a hE=>?_)
          refine t_val (v:=.pointer (some ((x90_34).add 1))) rfl rfl hE rfl (r_fieldAddr hE rfl fd146_1) (fun a hE=>?_)
          obtain ⟨u_35,qu_35,H⟩:=H
          refine t_sth rfl rfl hE hR (r_store hE rfl rfl sz3 qu_35) (fun a w hE hR hh=>?_)
          replace H:=M.at hh H; clear hh
          refine t_nil ?_
          refine hK_31 _ _ ?_
          refine w_seq (fun K hK_36=>?_)
          refine t_region ?_
          refine t_val (v:=.int .i64 x26_17) rfl rfl hE rfl (r_move hE rfl) (fun a hE=>?_)
          refine t_val (v:=.int .i64 (iShl .i64 x26_17 4)) rfl rfl hE rfl (r_bin hE rfl rfl g_int (b_shl ⟨by decide,rfl⟩)) (fun a hE=>?_)
          refine t_val (v:=.int .i64 x60_27) rfl rfl hE rfl (r_move hE rfl) (fun a hE=>?_)
          refine t_val (v:=.int .i64 (iOr .i64 (iShl .i64 x26_17 4) x60_27)) rfl rfl hE rfl (r_bin hE rfl rfl g_int b_or) (fun a hE=>?_)
          refine t_val (v:=.int .u8 (IntKind.wrap .u8 (iOr .i64 (iShl .i64 x26_17 4) x60_27))) rfl rfl hE rfl (r_convI hE rfl un3 un5) (fun a hE=>?_)
          refine t_val (v:=.int .u8 (IntKind.wrap .u8 (iOr .i64 (iShl .i64 x26_17 4) x60_27))) rfl rfl hE rfl (r_assign hE rfl) (fun a hE=>?_)
          refine t_nil ?_
          refine hK_36 _ _ ?_
          refine w_ret ?_
          exact hret _ _ _ (IntKind.wrap .u8 (iOr .i64 (iShl .i64 x26_17 4) x60_27)) _ hE hR (res_run hE rfl (RV.tmp rfl RV.nil)) rfl H
        · skip
          refine w_seq_join (fun a w=>∃ (x82_37 : Bool),Env (⟨97,[]⟩ : Frm) a [(0,.pointer x0),(4,.int .i64 x26_17),(5,.int .i64 x60_27),(82,.bool x82_37)] ∧ Rest w0 w ∧ (value_reader_escaped_j3 x0 x26_17 x60_27 x82_37).wp w.heap Q) ?_ ?_
          · rintro a w ⟨x82_37,hE,hR,H⟩
            unfold value_reader_escaped_j3 at H
            refine w_cond x82_37 hE rfl (fun hb=>?_) (fun hb=>?_)
            · replace H:=M.ite_t hb H
              refine t_region ?_
              refine t_val (v:=.pointer x0) rfl rfl hE rfl (r_move hE rfl) (fun a hE=>?_)
              refine t_callX hE hR cl_value_reader_fail rfl (S_value_reader_fail x0) H (fun _ _ hR HQ=>hthr _ _ hR HQ) (fun x84_41 a w ea hR H=>?_)
              have hE:=Env.put_some hE rfl ea; clear ea
              refine t_nil ?_
              exact ⟨hE.cut (.cons rfl (.cons rfl (.cons rfl Subs.nil))),hR,H⟩
            · replace H:=M.ite_f hb H
              refine w_skip ?_
              exact ⟨hE.cut (.cons rfl (.cons rfl (.cons rfl Subs.nil))),hR,H⟩
          · skip
            obtain ⟨x62_42,qx62_42,H⟩:=H
            obtain ⟨x66_43,qx66_43,H⟩:=H
            obtain ⟨x64_44,qx64_44,H⟩:=H
            obtain ⟨x68_45,qx68_45,H⟩:=H
            rcases bool_em (decide (x64_44 ≥ (x68_45.size : Int))) with hb_46 | hb_46
            · replace H:=M.ite_t hb_46 H
              refine reg_eq (rops:=ro218_11) (by kernel_rfl) ?_
              have hT : Tab ro218_11 _ _ _:=tab_of tb218_11 rfl (by kernel_rfl)
              have hM:=TabM.of tb218_11m
              refine d_start (m:=22) (fun w : World=>(fun h : Heap=>(hcell h ((x62_42).add 1) = some (.int .i64 x64_44)) ∧ (hcell h ((x66_43).add 0) = some (.string x68_45))) w.heap) [9,10,11,12,13,14,15,16,17,18,19,20,21] (unb 22 0) mo hR (by kernel_rfl) (by kernel_rfl) (fun w' e=>by rw [e]; exact ⟨qx64_44,qx68_45⟩) (fun w hh hR hs=>?_)
              replace H:=M.at hh H; clear hh
              refine d_pureg (i:=0) (v:=.pointer x0) (unb 22 1) rfl rfl hT (anyM hM (by kernel_rfl)) hE rfl (wanted_none rfl) (fun w=>r_move hE rfl) (fun a hE=>?_)
              refine d_pureg (i:=1) (v:=.pointer (some x62_42)) (unb 22 3) rfl rfl hT (anyM hM (by kernel_rfl)) hE rfl (wanted_none rfl) (fun w=>r_nilCheck hE (hx_eq rfl (congrArg Value.pointer qx62_42))) (fun a hE=>?_)
              refine d_pureg (i:=2) (v:=.pointer (some ((x62_42).add 1))) (unb 22 7) rfl rfl hT (anyM hM (by kernel_rfl)) hE rfl (wanted_none rfl) (fun w=>r_fieldAddr hE rfl fd146_1) (fun a hE=>?_)
              refine d_pureg (i:=4) (v:=.pointer x0) (unb 22 23) rfl rfl hT (anyM hM (by kernel_rfl)) hE rfl (wanted_none rfl) (fun w=>r_move hE rfl) (fun a hE=>?_)
              refine d_pureg (i:=5) (v:=.pointer (some x66_43)) (unb 22 55) rfl rfl hT (anyM hM (by kernel_rfl)) hE rfl (wanted_none rfl) (fun w=>r_nilCheck hE (hx_eq rfl (congrArg Value.pointer qx66_43))) (fun a hE=>?_)
              refine d_pureg (i:=6) (v:=.pointer (some ((x66_43).add 0))) (unb 22 119) rfl rfl hT (anyM hM (by kernel_rfl)) hE rfl (wanted_none rfl) (fun w=>r_fieldAddr hE rfl fd146_0) (fun a hE=>?_)
              refine d_read (i:=3) (v:=.int .i64 x64_44) (unb 22 127) rfl rfl hT (takeM hM (by kernel_rfl)) hE rfl (wanted_none rfl) hs (fun w s=>r_load hE rfl sc3 s.1) (fun a hE=>?_)
              refine d_read (i:=7) (v:=.string x68_45) (unb 22 255) rfl rfl hT (takeM hM (by kernel_rfl)) hE rfl (wanted_none rfl) hs (fun w s=>r_load hE rfl sc9 s.2) (fun a hE=>?_)
              refine d_pureg (i:=8) (v:=.int .i64 (x68_45.size : Int)) (unb 22 511) rfl rfl hT (anyM hM (by kernel_rfl)) hE rfl (wanted_none rfl) (fun w=>r_lenS hE rfl un9) (fun a hE=>?_)
              refine d_pureg (i:=9) (v:=.bool (decide (x64_44 ≥ (x68_45.size : Int)))) (unb 22 1023) rfl rfl hT (anyM hM (by kernel_rfl)) hE rfl (wanted_none rfl) (fun w=>r_bin hE rfl rfl g_int b_geq) (fun a hE=>?_)
              refine d_pureg (i:=10) (v:=.bool (decide (x64_44 ≥ (x68_45.size : Int)))) (unb 22 2047) rfl rfl hT (anyM hM (by kernel_rfl)) hE rfl (wanted_none rfl) (fun w=>r_move hE rfl) (fun a hE=>?_)
              have hE:=hE.reb 71 (decide (x64_44 ≥ (x68_45.size : Int))) true hb_46 rfl
              replace hE:=hE.cut (l':=[(0,.pointer x0),(4,.int .i64 x26_17),(5,.int .i64 x60_27),(71,.bool true)]) (.cons rfl (.cons rfl (.cons rfl (.cons rfl Subs.nil))))
              refine d_off (i:=11) (unb 22 4095) rfl rfl hT (anyM hM (by kernel_rfl)) (unwanted_of rfl hE rfl rfl rfl) (fun a ea=>?_)
              have hE:=Env.put_some hE rfl ea; clear ea
              refine d_off (i:=12) (unb 22 8191) rfl rfl hT (anyM hM (by kernel_rfl)) (unwanted_of rfl hE rfl rfl rfl) (fun a ea=>?_)
              have hE:=Env.put_some hE rfl ea; clear ea
              refine d_pureg (i:=13) (v:=.bool true) (unb 22 16383) rfl rfl hT (anyM hM (by kernel_rfl)) hE rfl (wanted_none rfl) (fun w=>r_pick_t hE rfl rfl) (fun a hE=>?_)
              refine d_pureg (i:=14) (v:=.bool true) (unb 22 32767) rfl rfl hT (anyM hM (by kernel_rfl)) hE rfl (wanted_none rfl) (fun w=>r_move hE rfl) (fun a hE=>?_)
              refine d_offsM' [(15,some 76),(16,some 77),(17,some 78),(18,some 79),(19,some 80),(20,some 81)] 1 hT hM hE (by kernel_rfl) (m':=2097151) (by kernel_rfl) (fun a hE=>?_)
              refine d_pureg (i:=21) (v:=.bool true) (unb 22 4194303) rfl rfl hT (anyM hM (by kernel_rfl)) hE rfl (wanted_none rfl) (fun w=>r_pick_t hE rfl rfl) (fun a hE=>?_)
              refine d_done hT (doneM hM (by kernel_rfl)) ?_
              exact ⟨true,hE.cut (.cons rfl (.cons rfl (.cons rfl (.cons rfl Subs.nil)))),hR,H⟩
            · replace H:=M.ite_f hb_46 H
              rcases bool_em (decide (x60_27 < 0)) with hb_47 | hb_47
              · replace H:=M.ite_t hb_47 H
                refine reg_eq (rops:=ro218_11) (by kernel_rfl) ?_
                have hT : Tab ro218_11 _ _ _:=tab_of tb218_11 rfl (by kernel_rfl)
                have hM:=TabM.of tb218_11m
                refine d_start (m:=22) (fun w : World=>(fun h : Heap=>(hcell h ((x62_42).add 1) = some (.int .i64 x64_44)) ∧ (hcell h ((x66_43).add 0) = some (.string x68_45))) w.heap) [9,10,11,12,13,14,15,16,17,18,19,20,21] (unb 22 0) mo hR (by kernel_rfl) (by kernel_rfl) (fun w' e=>by rw [e]; exact ⟨qx64_44,qx68_45⟩) (fun w hh hR hs=>?_)
                replace H:=M.at hh H; clear hh
                refine d_pureg (i:=0) (v:=.pointer x0) (unb 22 1) rfl rfl hT (anyM hM (by kernel_rfl)) hE rfl (wanted_none rfl) (fun w=>r_move hE rfl) (fun a hE=>?_)
                refine d_pureg (i:=1) (v:=.pointer (some x62_42)) (unb 22 3) rfl rfl hT (anyM hM (by kernel_rfl)) hE rfl (wanted_none rfl) (fun w=>r_nilCheck hE (hx_eq rfl (congrArg Value.pointer qx62_42))) (fun a hE=>?_)
                refine d_pureg (i:=2) (v:=.pointer (some ((x62_42).add 1))) (unb 22 7) rfl rfl hT (anyM hM (by kernel_rfl)) hE rfl (wanted_none rfl) (fun w=>r_fieldAddr hE rfl fd146_1) (fun a hE=>?_)
                refine d_pureg (i:=4) (v:=.pointer x0) (unb 22 23) rfl rfl hT (anyM hM (by kernel_rfl)) hE rfl (wanted_none rfl) (fun w=>r_move hE rfl) (fun a hE=>?_)
                refine d_pureg (i:=5) (v:=.pointer (some x66_43)) (unb 22 55) rfl rfl hT (anyM hM (by kernel_rfl)) hE rfl (wanted_none rfl) (fun w=>r_nilCheck hE (hx_eq rfl (congrArg Value.pointer qx66_43))) (fun a hE=>?_)
                refine d_pureg (i:=6) (v:=.pointer (some ((x66_43).add 0))) (unb 22 119) rfl rfl hT (anyM hM (by kernel_rfl)) hE rfl (wanted_none rfl) (fun w=>r_fieldAddr hE rfl fd146_0) (fun a hE=>?_)
                refine d_read (i:=3) (v:=.int .i64 x64_44) (unb 22 127) rfl rfl hT (takeM hM (by kernel_rfl)) hE rfl (wanted_none rfl) hs (fun w s=>r_load hE rfl sc3 s.1) (fun a hE=>?_)
                refine d_read (i:=7) (v:=.string x68_45) (unb 22 255) rfl rfl hT (takeM hM (by kernel_rfl)) hE rfl (wanted_none rfl) hs (fun w s=>r_load hE rfl sc9 s.2) (fun a hE=>?_)
                refine d_pureg (i:=8) (v:=.int .i64 (x68_45.size : Int)) (unb 22 511) rfl rfl hT (anyM hM (by kernel_rfl)) hE rfl (wanted_none rfl) (fun w=>r_lenS hE rfl un9) (fun a hE=>?_)
                refine d_pureg (i:=9) (v:=.bool (decide (x64_44 ≥ (x68_45.size : Int)))) (unb 22 1023) rfl rfl hT (anyM hM (by kernel_rfl)) hE rfl (wanted_none rfl) (fun w=>r_bin hE rfl rfl g_int b_geq) (fun a hE=>?_)
                refine d_pureg (i:=10) (v:=.bool (decide (x64_44 ≥ (x68_45.size : Int)))) (unb 22 2047) rfl rfl hT (anyM hM (by kernel_rfl)) hE rfl (wanted_none rfl) (fun w=>r_move hE rfl) (fun a hE=>?_)
                have hE:=hE.reb 71 (decide (x64_44 ≥ (x68_45.size : Int))) false hb_46 rfl
                replace hE:=hE.cut (l':=[(0,.pointer x0),(4,.int .i64 x26_17),(5,.int .i64 x60_27),(71,.bool false)]) (.cons rfl (.cons rfl (.cons rfl (.cons rfl Subs.nil))))
                refine d_pureg (i:=11) (v:=.int .i64 x60_27) (unb 22 4095) rfl rfl hT (anyM hM (by kernel_rfl)) hE rfl (wanted_of rfl hE rfl rfl rfl) (fun w=>r_move hE rfl) (fun a hE=>?_)
                refine d_pureg (i:=12) (v:=.bool (decide (x60_27 < 0))) (unb 22 8191) rfl rfl hT (anyM hM (by kernel_rfl)) hE rfl (wanted_of rfl hE rfl rfl rfl) (fun w=>r_bin hE rfl rfl g_int b_lss) (fun a hE=>?_)
                refine d_pureg (i:=13) (v:=.bool (decide (x60_27 < 0))) (unb 22 16383) rfl rfl hT (anyM hM (by kernel_rfl)) hE rfl (wanted_none rfl) (fun w=>r_pick_f hE rfl rfl) (fun a hE=>?_)
                refine d_pureg (i:=14) (v:=.bool (decide (x60_27 < 0))) (unb 22 32767) rfl rfl hT (anyM hM (by kernel_rfl)) hE rfl (wanted_none rfl) (fun w=>r_move hE rfl) (fun a hE=>?_)
                have hE:=hE.reb 75 (decide (x60_27 < 0)) true hb_47 rfl
                replace hE:=hE.cut (l':=[(0,.pointer x0),(4,.int .i64 x26_17),(5,.int .i64 x60_27),(75,.bool true)]) (.cons rfl (.cons rfl (.cons rfl (.cons rfl Subs.nil))))
                refine d_offsM' [(15,some 76),(16,some 77),(17,some 78),(18,some 79),(19,some 80),(20,some 81)] 1 hT hM hE (by kernel_rfl) (m':=2097151) (by kernel_rfl) (fun a hE=>?_)
                refine d_pureg (i:=21) (v:=.bool true) (unb 22 4194303) rfl rfl hT (anyM hM (by kernel_rfl)) hE rfl (wanted_none rfl) (fun w=>r_pick_t hE rfl rfl) (fun a hE=>?_)
                refine d_done hT (doneM hM (by kernel_rfl)) ?_
                exact ⟨true,hE.cut (.cons rfl (.cons rfl (.cons rfl (.cons rfl Subs.nil)))),hR,H⟩
              · replace H:=M.ite_f hb_47 H
                rcases bool_em (x26_17 == 7) with hb_48 | hb_48
                · replace H:=M.ite_t hb_48 H
                  refine reg_eq (rops:=ro218_11) (by kernel_rfl) ?_
                  have hT : Tab ro218_11 _ _ _:=tab_of tb218_11 rfl (by kernel_rfl)
                  have hM:=TabM.of tb218_11m
                  refine d_start (m:=22) (fun w : World=>(fun h : Heap=>(hcell h ((x62_42).add 1) = some (.int .i64 x64_44)) ∧ (hcell h ((x66_43).add 0) = some (.string x68_45))) w.heap) [9,10,11,12,13,14,15,16,17,18,19,20,21] (unb 22 0) mo hR (by kernel_rfl) (by kernel_rfl) (fun w' e=>by rw [e]; exact ⟨qx64_44,qx68_45⟩) (fun w hh hR hs=>?_)
                  replace H:=M.at hh H; clear hh
                  refine d_pureg (i:=0) (v:=.pointer x0) (unb 22 1) rfl rfl hT (anyM hM (by kernel_rfl)) hE rfl (wanted_none rfl) (fun w=>r_move hE rfl) (fun a hE=>?_)
                  refine d_pureg (i:=1) (v:=.pointer (some x62_42)) (unb 22 3) rfl rfl hT (anyM hM (by kernel_rfl)) hE rfl (wanted_none rfl) (fun w=>r_nilCheck hE (hx_eq rfl (congrArg Value.pointer qx62_42))) (fun a hE=>?_)
                  refine d_pureg (i:=2) (v:=.pointer (some ((x62_42).add 1))) (unb 22 7) rfl rfl hT (anyM hM (by kernel_rfl)) hE rfl (wanted_none rfl) (fun w=>r_fieldAddr hE rfl fd146_1) (fun a hE=>?_)
                  refine d_pureg (i:=4) (v:=.pointer x0) (unb 22 23) rfl rfl hT (anyM hM (by kernel_rfl)) hE rfl (wanted_none rfl) (fun w=>r_move hE rfl) (fun a hE=>?_)
                  refine d_pureg (i:=5) (v:=.pointer (some x66_43)) (unb 22 55) rfl rfl hT (anyM hM (by kernel_rfl)) hE rfl (wanted_none rfl) (fun w=>r_nilCheck hE (hx_eq rfl (congrArg Value.pointer qx66_43))) (fun a hE=>?_)
                  refine d_pureg (i:=6) (v:=.pointer (some ((x66_43).add 0))) (unb 22 119) rfl rfl hT (anyM hM (by kernel_rfl)) hE rfl (wanted_none rfl) (fun w=>r_fieldAddr hE rfl fd146_0) (fun a hE=>?_)
                  refine d_read (i:=3) (v:=.int .i64 x64_44) (unb 22 127) rfl rfl hT (takeM hM (by kernel_rfl)) hE rfl (wanted_none rfl) hs (fun w s=>r_load hE rfl sc3 s.1) (fun a hE=>?_)
                  refine d_read (i:=7) (v:=.string x68_45) (unb 22 255) rfl rfl hT (takeM hM (by kernel_rfl)) hE rfl (wanted_none rfl) hs (fun w s=>r_load hE rfl sc9 s.2) (fun a hE=>?_)
                  refine d_pureg (i:=8) (v:=.int .i64 (x68_45.size : Int)) (unb 22 511) rfl rfl hT (anyM hM (by kernel_rfl)) hE rfl (wanted_none rfl) (fun w=>r_lenS hE rfl un9) (fun a hE=>?_)
                  refine d_pureg (i:=9) (v:=.bool (decide (x64_44 ≥ (x68_45.size : Int)))) (unb 22 1023) rfl rfl hT (anyM hM (by kernel_rfl)) hE rfl (wanted_none rfl) (fun w=>r_bin hE rfl rfl g_int b_geq) (fun a hE=>?_)
                  refine d_pureg (i:=10) (v:=.bool (decide (x64_44 ≥ (x68_45.size : Int)))) (unb 22 2047) rfl rfl hT (anyM hM (by kernel_rfl)) hE rfl (wanted_none rfl) (fun w=>r_move hE rfl) (fun a hE=>?_)
                  have hE:=hE.reb 71 (decide (x64_44 ≥ (x68_45.size : Int))) false hb_46 rfl
                  replace hE:=hE.cut (l':=[(0,.pointer x0),(4,.int .i64 x26_17),(5,.int .i64 x60_27),(71,.bool false)]) (.cons rfl (.cons rfl (.cons rfl (.cons rfl Subs.nil))))
                  refine d_pureg (i:=11) (v:=.int .i64 x60_27) (unb 22 4095) rfl rfl hT (anyM hM (by kernel_rfl)) hE rfl (wanted_of rfl hE rfl rfl rfl) (fun w=>r_move hE rfl) (fun a hE=>?_)
                  refine d_pureg (i:=12) (v:=.bool (decide (x60_27 < 0))) (unb 22 8191) rfl rfl hT (anyM hM (by kernel_rfl)) hE rfl (wanted_of rfl hE rfl rfl rfl) (fun w=>r_bin hE rfl rfl g_int b_lss) (fun a hE=>?_)
                  refine d_pureg (i:=13) (v:=.bool (decide (x60_27 < 0))) (unb 22 16383) rfl rfl hT (anyM hM (by kernel_rfl)) hE rfl (wanted_none rfl) (fun w=>r_pick_f hE rfl rfl) (fun a hE=>?_)
                  refine d_pureg (i:=14) (v:=.bool (decide (x60_27 < 0))) (unb 22 32767) rfl rfl hT (anyM hM (by kernel_rfl)) hE rfl (wanted_none rfl) (fun w=>r_move hE rfl) (fun a hE=>?_)
                  have hE:=hE.reb 75 (decide (x60_27 < 0)) false hb_47 rfl
                  replace hE:=hE.cut (l':=[(0,.pointer x0),(4,.int .i64 x26_17),(5,.int .i64 x60_27),(75,.bool false)]) (.cons rfl (.cons rfl (.cons rfl (.cons rfl Subs.nil))))
                  refine d_pureg (i:=15) (v:=.int .i64 x26_17) (unb 22 65535) rfl rfl hT (anyM hM (by kernel_rfl)) hE rfl (wanted_of rfl hE rfl rfl rfl) (fun w=>r_move hE rfl) (fun a hE=>?_)
                  refine d_pureg (i:=16) (v:=.bool (x26_17 == 7)) (unb 22 131071) rfl rfl hT (anyM hM (by kernel_rfl)) hE rfl (wanted_of rfl hE rfl rfl rfl) (fun w=>r_bin hE rfl rfl g_int b_eql) (fun a hE=>?_)
                  refine d_pureg (i:=17) (v:=.bool (x26_17 == 7)) (unb 22 262143) rfl rfl hT (anyM hM (by kernel_rfl)) hE rfl (wanted_of rfl hE rfl rfl rfl) (fun w=>r_move hE rfl) (fun a hE=>?_)
                  have hE:=hE.reb 78 (x26_17 == 7) true hb_48 rfl
                  replace hE:=hE.cut (l':=[(0,.pointer x0),(4,.int .i64 x26_17),(5,.int .i64 x60_27),(75,.bool false),(78,.bool true)]) (.cons rfl (.cons rfl (.cons rfl (.cons rfl (.cons rfl Subs.nil)))))
                  refine d_pureg (i:=18) (v:=.int .i64 x60_27) (unb 22 524287) rfl rfl hT (anyM hM (by kernel_rfl)) hE rfl (wanted_of rfl hE rfl rfl rfl) (fun w=>r_move hE rfl) (fun a hE=>?_)
                  refine d_pureg (i:=19) (v:=.bool (decide (x60_27 < 15))) (unb 22 1048575) rfl rfl hT (anyM hM (by kernel_rfl)) hE rfl (wanted_of rfl hE rfl rfl rfl) (fun w=>r_bin hE rfl rfl g_int b_lss) (fun a hE=>?_)
                  refine d_pureg (i:=20) (v:=.bool (decide (x60_27 < 15))) (unb 22 2097151) rfl rfl hT (anyM hM (by kernel_rfl)) hE rfl (wanted_of rfl hE rfl rfl rfl) (fun w=>r_pick_t hE rfl rfl) (fun a hE=>?_)
                  refine d_pureg (i:=21) (v:=.bool (decide (x60_27 < 15))) (unb 22 4194303) rfl rfl hT (anyM hM (by kernel_rfl)) hE rfl (wanted_none rfl) (fun w=>r_pick_f hE rfl rfl) (fun a hE=>?_)
                  refine d_done hT (doneM hM (by kernel_rfl)) ?_
                  exact ⟨decide (x60_27 < 15),hE.cut (.cons rfl (.cons rfl (.cons rfl (.cons rfl Subs.nil)))),hR,H⟩
                · replace H:=M.ite_f hb_48 H
                  refine reg_eq (rops:=ro218_11) (by kernel_rfl) ?_
                  have hT : Tab ro218_11 _ _ _:=tab_of tb218_11 rfl (by kernel_rfl)
                  have hM:=TabM.of tb218_11m
                  refine d_start (m:=22) (fun w : World=>(fun h : Heap=>(hcell h ((x62_42).add 1) = some (.int .i64 x64_44)) ∧ (hcell h ((x66_43).add 0) = some (.string x68_45))) w.heap) [9,10,11,12,13,14,15,16,17,18,19,20,21] (unb 22 0) mo hR (by kernel_rfl) (by kernel_rfl) (fun w' e=>by rw [e]; exact ⟨qx64_44,qx68_45⟩) (fun w hh hR hs=>?_)
                  replace H:=M.at hh H; clear hh
                  refine d_pureg (i:=0) (v:=.pointer x0) (unb 22 1) rfl rfl hT (anyM hM (by kernel_rfl)) hE rfl (wanted_none rfl) (fun w=>r_move hE rfl) (fun a hE=>?_)
                  refine d_pureg (i:=1) (v:=.pointer (some x62_42)) (unb 22 3) rfl rfl hT (anyM hM (by kernel_rfl)) hE rfl (wanted_none rfl) (fun w=>r_nilCheck hE (hx_eq rfl (congrArg Value.pointer qx62_42))) (fun a hE=>?_)
                  refine d_pureg (i:=2) (v:=.pointer (some ((x62_42).add 1))) (unb 22 7) rfl rfl hT (anyM hM (by kernel_rfl)) hE rfl (wanted_none rfl) (fun w=>r_fieldAddr hE rfl fd146_1) (fun a hE=>?_)
                  refine d_pureg (i:=4) (v:=.pointer x0) (unb 22 23) rfl rfl hT (anyM hM (by kernel_rfl)) hE rfl (wanted_none rfl) (fun w=>r_move hE rfl) (fun a hE=>?_)
                  refine d_pureg (i:=5) (v:=.pointer (some x66_43)) (unb 22 55) rfl rfl hT (anyM hM (by kernel_rfl)) hE rfl (wanted_none rfl) (fun w=>r_nilCheck hE (hx_eq rfl (congrArg Value.pointer qx66_43))) (fun a hE=>?_)
                  refine d_pureg (i:=6) (v:=.pointer (some ((x66_43).add 0))) (unb 22 119) rfl rfl hT (anyM hM (by kernel_rfl)) hE rfl (wanted_none rfl) (fun w=>r_fieldAddr hE rfl fd146_0) (fun a hE=>?_)
                  refine d_read (i:=3) (v:=.int .i64 x64_44) (unb 22 127) rfl rfl hT (takeM hM (by kernel_rfl)) hE rfl (wanted_none rfl) hs (fun w s=>r_load hE rfl sc3 s.1) (fun a hE=>?_)
                  refine d_read (i:=7) (v:=.string x68_45) (unb 22 255) rfl rfl hT (takeM hM (by kernel_rfl)) hE rfl (wanted_none rfl) hs (fun w s=>r_load hE rfl sc9 s.2) (fun a hE=>?_)
                  refine d_pureg (i:=8) (v:=.int .i64 (x68_45.size : Int)) (unb 22 511) rfl rfl hT (anyM hM (by kernel_rfl)) hE rfl (wanted_none rfl) (fun w=>r_lenS hE rfl un9) (fun a hE=>?_)
                  refine d_pureg (i:=9) (v:=.bool (decide (x64_44 ≥ (x68_45.size : Int)))) (unb 22 1023) rfl rfl hT (anyM hM (by kernel_rfl)) hE rfl (wanted_none rfl) (fun w=>r_bin hE rfl rfl g_int b_geq) (fun a hE=>?_)
                  refine d_pureg (i:=10) (v:=.bool (decide (x64_44 ≥ (x68_45.size : Int)))) (unb 22 2047) rfl rfl hT (anyM hM (by kernel_rfl)) hE rfl (wanted_none rfl) (fun w=>r_move hE rfl) (fun a hE=>?_)
                  have hE:=hE.reb 71 (decide (x64_44 ≥ (x68_45.size : Int))) false hb_46 rfl
                  replace hE:=hE.cut (l':=[(0,.pointer x0),(4,.int .i64 x26_17),(5,.int .i64 x60_27),(71,.bool false)]) (.cons rfl (.cons rfl (.cons rfl (.cons rfl Subs.nil))))
                  refine d_pureg (i:=11) (v:=.int .i64 x60_27) (unb 22 4095) rfl rfl hT (anyM hM (by kernel_rfl)) hE rfl (wanted_of rfl hE rfl rfl rfl) (fun w=>r_move hE rfl) (fun a hE=>?_)
                  refine d_pureg (i:=12) (v:=.bool (decide (x60_27 < 0))) (unb 22 8191) rfl rfl hT (anyM hM (by kernel_rfl)) hE rfl (wanted_of rfl hE rfl rfl rfl) (fun w=>r_bin hE rfl rfl g_int b_lss) (fun a hE=>?_)
                  refine d_pureg (i:=13) (v:=.bool (decide (x60_27 < 0))) (unb 22 16383) rfl rfl hT (anyM hM (by kernel_rfl)) hE rfl (wanted_none rfl) (fun w=>r_pick_f hE rfl rfl) (fun a hE=>?_)
                  refine d_pureg (i:=14) (v:=.bool (decide (x60_27 < 0))) (unb 22 32767) rfl rfl hT (anyM hM (by kernel_rfl)) hE rfl (wanted_none rfl) (fun w=>r_move hE rfl) (fun a hE=>?_)
                  have hE:=hE.reb 75 (decide (x60_27 < 0)) false hb_47 rfl
                  replace hE:=hE.cut (l':=[(0,.pointer x0),(4,.int .i64 x26_17),(5,.int .i64 x60_27),(75,.bool false)]) (.cons rfl (.cons rfl (.cons rfl (.cons rfl Subs.nil))))
                  refine d_pureg (i:=15) (v:=.int .i64 x26_17) (unb 22 65535) rfl rfl hT (anyM hM (by kernel_rfl)) hE rfl (wanted_of rfl hE rfl rfl rfl) (fun w=>r_move hE rfl) (fun a hE=>?_)
                  refine d_pureg (i:=16) (v:=.bool (x26_17 == 7)) (unb 22 131071) rfl rfl hT (anyM hM (by kernel_rfl)) hE rfl (wanted_of rfl hE rfl rfl rfl) (fun w=>r_bin hE rfl rfl g_int b_eql) (fun a hE=>?_)
                  refine d_pureg (i:=17) (v:=.bool (x26_17 == 7)) (unb 22 262143) rfl rfl hT (anyM hM (by kernel_rfl)) hE rfl (wanted_of rfl hE rfl rfl rfl) (fun w=>r_move hE rfl) (fun a hE=>?_)
                  have hE:=hE.reb 78 (x26_17 == 7) false hb_48 rfl
                  replace hE:=hE.cut (l':=[(0,.pointer x0),(4,.int .i64 x26_17),(5,.int .i64 x60_27),(75,.bool false),(78,.bool false)]) (.cons rfl (.cons rfl (.cons rfl (.cons rfl (.cons rfl Subs.nil)))))
                  refine d_off (i:=18) (unb 22 524287) rfl rfl hT (anyM hM (by kernel_rfl)) (unwanted_of rfl hE rfl rfl rfl) (fun a ea=>?_)
                  have hE:=Env.put_some hE rfl ea; clear ea
                  refine d_off (i:=19) (unb 22 1048575) rfl rfl hT (anyM hM (by kernel_rfl)) (unwanted_of rfl hE rfl rfl rfl) (fun a ea=>?_)
                  have hE:=Env.put_some hE rfl ea; clear ea
                  refine d_pureg (i:=20) (v:=.bool false) (unb 22 2097151) rfl rfl hT (anyM hM (by kernel_rfl)) hE rfl (wanted_of rfl hE rfl rfl rfl) (fun w=>r_pick_f hE rfl rfl) (fun a hE=>?_)
                  refine d_pureg (i:=21) (v:=.bool false) (unb 22 4194303) rfl rfl hT (anyM hM (by kernel_rfl)) hE rfl (wanted_none rfl) (fun w=>r_pick_f hE rfl rfl) (fun a hE=>?_)
                  refine d_done hT (doneM hM (by kernel_rfl)) ?_
                  exact ⟨false,hE.cut (.cons rfl (.cons rfl (.cons rfl (.cons rfl Subs.nil)))),hR,H⟩
      · skip
        refine w_seq_join (fun a w=>∃ (x48_49 : Bool),Env (⟨97,[]⟩ : Frm) a [(0,.pointer x0),(4,.int .i64 x26_17),(48,.bool x48_49)] ∧ Rest w0 w ∧ (value_reader_escaped_j4 x0 x26_17 x48_49).wp w.heap Q) ?_ ?_
        · rintro a w ⟨x48_49,hE,hR,H⟩
          unfold value_reader_escaped_j4 at H
          refine w_cond x48_49 hE rfl (fun hb=>?_) (fun hb=>?_)
          · replace H:=M.ite_t hb H
            refine t_region ?_
            refine t_val (v:=.pointer x0) rfl rfl hE rfl (r_move hE rfl) (fun a hE=>?_)
            refine t_callX hE hR cl_value_reader_fail rfl (S_value_reader_fail x0) H (fun _ _ hR HQ=>hthr _ _ hR HQ) (fun x50_52 a w ea hR H=>?_)
            have hE:=Env.put_some hE rfl ea; clear ea
            refine t_nil ?_
            exact ⟨hE.cut (.cons rfl (.cons rfl Subs.nil)),hR,H⟩
          · replace H:=M.ite_f hb H
            refine w_skip ?_
            exact ⟨hE.cut (.cons rfl (.cons rfl Subs.nil)),hR,H⟩
        · skip
          obtain ⟨x28_53,qx28_53,H⟩:=H
          obtain ⟨x32_54,qx32_54,H⟩:=H
          obtain ⟨x30_55,qx30_55,H⟩:=H
          obtain ⟨x34_56,qx34_56,H⟩:=H
          rcases bool_em (decide (x30_55 ≥ (x34_56.size : Int))) with hb_57 | hb_57
          · replace H:=M.ite_t hb_57 H
            refine reg_eq (rops:=ro218_7) (by kernel_rfl) ?_
            have hT : Tab ro218_7 _ _ _:=tab_of tb218_7 rfl (by kernel_rfl)
            have hM:=TabM.of tb218_7m
            refine d_start (m:=22) (fun w : World=>(fun h : Heap=>(hcell h ((x28_53).add 1) = some (.int .i64 x30_55)) ∧ (hcell h ((x32_54).add 0) = some (.string x34_56))) w.heap) [9,10,11,12,13,14,15,16,17,18,19,20,21] (unb 22 0) mo hR (by kernel_rfl) (by kernel_rfl) (fun w' e=>by rw [e]; exact ⟨qx30_55,qx34_56⟩) (fun w hh hR hs=>?_)
            replace H:=M.at hh H; clear hh
            refine d_pureg (i:=0) (v:=.pointer x0) (unb 22 1) rfl rfl hT (anyM hM (by kernel_rfl)) hE rfl (wanted_none rfl) (fun w=>r_move hE rfl) (fun a hE=>?_)
            refine d_pureg (i:=1) (v:=.pointer (some x28_53)) (unb 22 3) rfl rfl hT (anyM hM (by kernel_rfl)) hE rfl (wanted_none rfl) (fun w=>r_nilCheck hE (hx_eq rfl (congrArg Value.pointer qx28_53))) (fun a hE=>?_)
            refine d_pureg (i:=2) (v:=.pointer (some ((x28_53).add 1))) (unb 22 7) rfl rfl hT (anyM hM (by kernel_rfl)) hE rfl (wanted_none rfl) (fun w=>r_fieldAddr hE rfl fd146_1) (fun a hE=>?_)
            refine d_pureg (i:=4) (v:=.pointer x0) (unb 22 23) rfl rfl hT (anyM hM (by kernel_rfl)) hE rfl (wanted_none rfl) (fun w=>r_move hE rfl) (fun a hE=>?_)
            refine d_pureg (i:=5) (v:=.pointer (some x32_54)) (unb 22 55) rfl rfl hT (anyM hM (by kernel_rfl)) hE rfl (wanted_none rfl) (fun w=>r_nilCheck hE (hx_eq rfl (congrArg Value.pointer qx32_54))) (fun a hE=>?_)
            refine d_pureg (i:=6) (v:=.pointer (some ((x32_54).add 0))) (unb 22 119) rfl rfl hT (anyM hM (by kernel_rfl)) hE rfl (wanted_none rfl) (fun w=>r_fieldAddr hE rfl fd146_0) (fun a hE=>?_)
            refine d_read (i:=3) (v:=.int .i64 x30_55) (unb 22 127) rfl rfl hT (takeM hM (by kernel_rfl)) hE rfl (wanted_none rfl) hs (fun w s=>r_load hE rfl sc3 s.1) (fun a hE=>?_)
            refine d_read (i:=7) (v:=.string x34_56) (unb 22 255) rfl rfl hT (takeM hM (by kernel_rfl)) hE rfl (wanted_none rfl) hs (fun w s=>r_load hE rfl sc9 s.2) (fun a hE=>?_)
            refine d_pureg (i:=8) (v:=.int .i64 (x34_56.size : Int)) (unb 22 511) rfl rfl hT (anyM hM (by kernel_rfl)) hE rfl (wanted_none rfl) (fun w=>r_lenS hE rfl un9) (fun a hE=>?_)
            refine d_pureg (i:=9) (v:=.bool (decide (x30_55 ≥ (x34_56.size : Int)))) (unb 22 1023) rfl rfl hT (anyM hM (by kernel_rfl)) hE rfl (wanted_none rfl) (fun w=>r_bin hE rfl rfl g_int b_geq) (fun a hE=>?_)
            refine d_pureg (i:=10) (v:=.bool (decide (x30_55 ≥ (x34_56.size : Int)))) (unb 22 2047) rfl rfl hT (anyM hM (by kernel_rfl)) hE rfl (wanted_none rfl) (fun w=>r_move hE rfl) (fun a hE=>?_)
            have hE:=hE.reb 37 (decide (x30_55 ≥ (x34_56.size : Int))) true hb_57 rfl
            replace hE:=hE.cut (l':=[(0,.pointer x0),(4,.int .i64 x26_17),(37,.bool true)]) (.cons rfl (.cons rfl (.cons rfl Subs.nil)))
            refine d_off (i:=11) (unb 22 4095) rfl rfl hT (anyM hM (by kernel_rfl)) (unwanted_of rfl hE rfl rfl rfl) (fun a ea=>?_)
            have hE:=Env.put_some hE rfl ea; clear ea
            refine d_off (i:=12) (unb 22 8191) rfl rfl hT (anyM hM (by kernel_rfl)) (unwanted_of rfl hE rfl rfl rfl) (fun a ea=>?_)
            have hE:=Env.put_some hE rfl ea; clear ea
            refine d_pureg (i:=13) (v:=.bool true) (unb 22 16383) rfl rfl hT (anyM hM (by kernel_rfl)) hE rfl (wanted_none rfl) (fun w=>r_pick_t hE rfl rfl) (fun a hE=>?_)
            refine d_pureg (i:=14) (v:=.bool true) (unb 22 32767) rfl rfl hT (anyM hM (by kernel_rfl)) hE rfl (wanted_none rfl) (fun w=>r_move hE rfl) (fun a hE=>?_)
            refine d_offsM' [(15,some 42),(16,some 43),(17,some 44),(18,some 45),(19,some 46),(20,some 47)] 1 hT hM hE (by kernel_rfl) (m':=2097151) (by kernel_rfl) (fun a hE=>?_)
            refine d_pureg (i:=21) (v:=.bool true) (unb 22 4194303) rfl rfl hT (anyM hM (by kernel_rfl)) hE rfl (wanted_none rfl) (fun w=>r_pick_t hE rfl rfl) (fun a hE=>?_)
            refine d_done hT (doneM hM (by kernel_rfl)) ?_
            exact ⟨true,hE.cut (.cons rfl (.cons rfl (.cons rfl Subs.nil))),hR,H⟩
          · replace H:=M.ite_f hb_57 H
            rcases bool_em (decide (x26_17 < 0)) with hb_58 | hb_58
            · replace H:=M.ite_t hb_58 H
              refine reg_eq (rops:=ro218_7) (by kernel_rfl) ?_
              have hT : Tab ro218_7 _ _ _:=tab_of tb218_7 rfl (by kernel_rfl)
              have hM:=TabM.of tb218_7m
              refine d_start (m:=22) (fun w : World=>(fun h : Heap=>(hcell h ((x28_53).add 1) = some (.int .i64 x30_55)) ∧ (hcell h ((x32_54).add 0) = some (.string x34_56))) w.heap) [9,10,11,12,13,14,15,16,17,18,19,20,21] (unb 22 0) mo hR (by kernel_rfl) (by kernel_rfl) (fun w' e=>by rw [e]; exact ⟨qx30_55,qx34_56⟩) (fun w hh hR hs=>?_)
              replace H:=M.at hh H; clear hh
              refine d_pureg (i:=0) (v:=.pointer x0) (unb 22 1) rfl rfl hT (anyM hM (by kernel_rfl)) hE rfl (wanted_none rfl) (fun w=>r_move hE rfl) (fun a hE=>?_)
              refine d_pureg (i:=1) (v:=.pointer (some x28_53)) (unb 22 3) rfl rfl hT (anyM hM (by kernel_rfl)) hE rfl (wanted_none rfl) (fun w=>r_nilCheck hE (hx_eq rfl (congrArg Value.pointer qx28_53))) (fun a hE=>?_)
              refine d_pureg (i:=2) (v:=.pointer (some ((x28_53).add 1))) (unb 22 7) rfl rfl hT (anyM hM (by kernel_rfl)) hE rfl (wanted_none rfl) (fun w=>r_fieldAddr hE rfl fd146_1) (fun a hE=>?_)
              refine d_pureg (i:=4) (v:=.pointer x0) (unb 22 23) rfl rfl hT (anyM hM (by kernel_rfl)) hE rfl (wanted_none rfl) (fun w=>r_move hE rfl) (fun a hE=>?_)
              refine d_pureg (i:=5) (v:=.pointer (some x32_54)) (unb 22 55) rfl rfl hT (anyM hM (by kernel_rfl)) hE rfl (wanted_none rfl) (fun w=>r_nilCheck hE (hx_eq rfl (congrArg Value.pointer qx32_54))) (fun a hE=>?_)
              refine d_pureg (i:=6) (v:=.pointer (some ((x32_54).add 0))) (unb 22 119) rfl rfl hT (anyM hM (by kernel_rfl)) hE rfl (wanted_none rfl) (fun w=>r_fieldAddr hE rfl fd146_0) (fun a hE=>?_)
              refine d_read (i:=3) (v:=.int .i64 x30_55) (unb 22 127) rfl rfl hT (takeM hM (by kernel_rfl)) hE rfl (wanted_none rfl) hs (fun w s=>r_load hE rfl sc3 s.1) (fun a hE=>?_)
              refine d_read (i:=7) (v:=.string x34_56) (unb 22 255) rfl rfl hT (takeM hM (by kernel_rfl)) hE rfl (wanted_none rfl) hs (fun w s=>r_load hE rfl sc9 s.2) (fun a hE=>?_)
              refine d_pureg (i:=8) (v:=.int .i64 (x34_56.size : Int)) (unb 22 511) rfl rfl hT (anyM hM (by kernel_rfl)) hE rfl (wanted_none rfl) (fun w=>r_lenS hE rfl un9) (fun a hE=>?_)
              refine d_pureg (i:=9) (v:=.bool (decide (x30_55 ≥ (x34_56.size : Int)))) (unb 22 1023) rfl rfl hT (anyM hM (by kernel_rfl)) hE rfl (wanted_none rfl) (fun w=>r_bin hE rfl rfl g_int b_geq) (fun a hE=>?_)
              refine d_pureg (i:=10) (v:=.bool (decide (x30_55 ≥ (x34_56.size : Int)))) (unb 22 2047) rfl rfl hT (anyM hM (by kernel_rfl)) hE rfl (wanted_none rfl) (fun w=>r_move hE rfl) (fun a hE=>?_)
              have hE:=hE.reb 37 (decide (x30_55 ≥ (x34_56.size : Int))) false hb_57 rfl
              replace hE:=hE.cut (l':=[(0,.pointer x0),(4,.int .i64 x26_17),(37,.bool false)]) (.cons rfl (.cons rfl (.cons rfl Subs.nil)))
              refine d_pureg (i:=11) (v:=.int .i64 x26_17) (unb 22 4095) rfl rfl hT (anyM hM (by kernel_rfl)) hE rfl (wanted_of rfl hE rfl rfl rfl) (fun w=>r_move hE rfl) (fun a hE=>?_)
              refine d_pureg (i:=12) (v:=.bool (decide (x26_17 < 0))) (unb 22 8191) rfl rfl hT (anyM hM (by kernel_rfl)) hE rfl (wanted_of rfl hE rfl rfl rfl) (fun w=>r_bin hE rfl rfl g_int b_lss) (fun a hE=>?_)
              refine d_pureg (i:=13) (v:=.bool (decide (x26_17 < 0))) (unb 22 16383) rfl rfl hT (anyM hM (by kernel_rfl)) hE rfl (wanted_none rfl) (fun w=>r_pick_f hE rfl rfl) (fun a hE=>?_)
              refine d_pureg (i:=14) (v:=.bool (decide (x26_17 < 0))) (unb 22 32767) rfl rfl hT (anyM hM (by kernel_rfl)) hE rfl (wanted_none rfl) (fun w=>r_move hE rfl) (fun a hE=>?_)
              have hE:=hE.reb 41 (decide (x26_17 < 0)) true hb_58 rfl
              replace hE:=hE.cut (l':=[(0,.pointer x0),(4,.int .i64 x26_17),(41,.bool true)]) (.cons rfl (.cons rfl (.cons rfl Subs.nil)))
              refine d_offsM' [(15,some 42),(16,some 43),(17,some 44),(18,some 45),(19,some 46),(20,some 47)] 1 hT hM hE (by kernel_rfl) (m':=2097151) (by kernel_rfl) (fun a hE=>?_)
              refine d_pureg (i:=21) (v:=.bool true) (unb 22 4194303) rfl rfl hT (anyM hM (by kernel_rfl)) hE rfl (wanted_none rfl) (fun w=>r_pick_t hE rfl rfl) (fun a hE=>?_)
              refine d_done hT (doneM hM (by kernel_rfl)) ?_
              exact ⟨true,hE.cut (.cons rfl (.cons rfl (.cons rfl Subs.nil))),hR,H⟩
            · replace H:=M.ite_f hb_58 H
              rcases bool_em (decide (x26_17 > 1)) with hb_59 | hb_59
              · replace H:=M.ite_t hb_59 H
                refine reg_eq (rops:=ro218_7) (by kernel_rfl) ?_
                have hT : Tab ro218_7 _ _ _:=tab_of tb218_7 rfl (by kernel_rfl)
                have hM:=TabM.of tb218_7m
                refine d_start (m:=22) (fun w : World=>(fun h : Heap=>(hcell h ((x28_53).add 1) = some (.int .i64 x30_55)) ∧ (hcell h ((x32_54).add 0) = some (.string x34_56))) w.heap) [9,10,11,12,13,14,15,16,17,18,19,20,21] (unb 22 0) mo hR (by kernel_rfl) (by kernel_rfl) (fun w' e=>by rw [e]; exact ⟨qx30_55,qx34_56⟩) (fun w hh hR hs=>?_)
                replace H:=M.at hh H; clear hh
                refine d_pureg (i:=0) (v:=.pointer x0) (unb 22 1) rfl rfl hT (anyM hM (by kernel_rfl)) hE rfl (wanted_none rfl) (fun w=>r_move hE rfl) (fun a hE=>?_)
                refine d_pureg (i:=1) (v:=.pointer (some x28_53)) (unb 22 3) rfl rfl hT (anyM hM (by kernel_rfl)) hE rfl (wanted_none rfl) (fun w=>r_nilCheck hE (hx_eq rfl (congrArg Value.pointer qx28_53))) (fun a hE=>?_)
                refine d_pureg (i:=2) (v:=.pointer (some ((x28_53).add 1))) (unb 22 7) rfl rfl hT (anyM hM (by kernel_rfl)) hE rfl (wanted_none rfl) (fun w=>r_fieldAddr hE rfl fd146_1) (fun a hE=>?_)
                refine d_pureg (i:=4) (v:=.pointer x0) (unb 22 23) rfl rfl hT (anyM hM (by kernel_rfl)) hE rfl (wanted_none rfl) (fun w=>r_move hE rfl) (fun a hE=>?_)
                refine d_pureg (i:=5) (v:=.pointer (some x32_54)) (unb 22 55) rfl rfl hT (anyM hM (by kernel_rfl)) hE rfl (wanted_none rfl) (fun w=>r_nilCheck hE (hx_eq rfl (congrArg Value.pointer qx32_54))) (fun a hE=>?_)
                refine d_pureg (i:=6) (v:=.pointer (some ((x32_54).add 0))) (unb 22 119) rfl rfl hT (anyM hM (by kernel_rfl)) hE rfl (wanted_none rfl) (fun w=>r_fieldAddr hE rfl fd146_0) (fun a hE=>?_)
                refine d_read (i:=3) (v:=.int .i64 x30_55) (unb 22 127) rfl rfl hT (takeM hM (by kernel_rfl)) hE rfl (wanted_none rfl) hs (fun w s=>r_load hE rfl sc3 s.1) (fun a hE=>?_)
                refine d_read (i:=7) (v:=.string x34_56) (unb 22 255) rfl rfl hT (takeM hM (by kernel_rfl)) hE rfl (wanted_none rfl) hs (fun w s=>r_load hE rfl sc9 s.2) (fun a hE=>?_)
                refine d_pureg (i:=8) (v:=.int .i64 (x34_56.size : Int)) (unb 22 511) rfl rfl hT (anyM hM (by kernel_rfl)) hE rfl (wanted_none rfl) (fun w=>r_lenS hE rfl un9) (fun a hE=>?_)
                refine d_pureg (i:=9) (v:=.bool (decide (x30_55 ≥ (x34_56.size : Int)))) (unb 22 1023) rfl rfl hT (anyM hM (by kernel_rfl)) hE rfl (wanted_none rfl) (fun w=>r_bin hE rfl rfl g_int b_geq) (fun a hE=>?_)
                refine d_pureg (i:=10) (v:=.bool (decide (x30_55 ≥ (x34_56.size : Int)))) (unb 22 2047) rfl rfl hT (anyM hM (by kernel_rfl)) hE rfl (wanted_none rfl) (fun w=>r_move hE rfl) (fun a hE=>?_)
                have hE:=hE.reb 37 (decide (x30_55 ≥ (x34_56.size : Int))) false hb_57 rfl
                replace hE:=hE.cut (l':=[(0,.pointer x0),(4,.int .i64 x26_17),(37,.bool false)]) (.cons rfl (.cons rfl (.cons rfl Subs.nil)))
                refine d_pureg (i:=11) (v:=.int .i64 x26_17) (unb 22 4095) rfl rfl hT (anyM hM (by kernel_rfl)) hE rfl (wanted_of rfl hE rfl rfl rfl) (fun w=>r_move hE rfl) (fun a hE=>?_)
                refine d_pureg (i:=12) (v:=.bool (decide (x26_17 < 0))) (unb 22 8191) rfl rfl hT (anyM hM (by kernel_rfl)) hE rfl (wanted_of rfl hE rfl rfl rfl) (fun w=>r_bin hE rfl rfl g_int b_lss) (fun a hE=>?_)
                refine d_pureg (i:=13) (v:=.bool (decide (x26_17 < 0))) (unb 22 16383) rfl rfl hT (anyM hM (by kernel_rfl)) hE rfl (wanted_none rfl) (fun w=>r_pick_f hE rfl rfl) (fun a hE=>?_)
                refine d_pureg (i:=14) (v:=.bool (decide (x26_17 < 0))) (unb 22 32767) rfl rfl hT (anyM hM (by kernel_rfl)) hE rfl (wanted_none rfl) (fun w=>r_move hE rfl) (fun a hE=>?_)
                have hE:=hE.reb 41 (decide (x26_17 < 0)) false hb_58 rfl
                replace hE:=hE.cut (l':=[(0,.pointer x0),(4,.int .i64 x26_17),(41,.bool false)]) (.cons rfl (.cons rfl (.cons rfl Subs.nil)))
                refine d_pureg (i:=15) (v:=.int .i64 x26_17) (unb 22 65535) rfl rfl hT (anyM hM (by kernel_rfl)) hE rfl (wanted_of rfl hE rfl rfl rfl) (fun w=>r_move hE rfl) (fun a hE=>?_)
                refine d_pureg (i:=16) (v:=.bool (decide (x26_17 > 1))) (unb 22 131071) rfl rfl hT (anyM hM (by kernel_rfl)) hE rfl (wanted_of rfl hE rfl rfl rfl) (fun w=>r_bin hE rfl rfl g_int b_gtr) (fun a hE=>?_)
                refine d_pureg (i:=17) (v:=.bool (decide (x26_17 > 1))) (unb 22 262143) rfl rfl hT (anyM hM (by kernel_rfl)) hE rfl (wanted_of rfl hE rfl rfl rfl) (fun w=>r_move hE rfl) (fun a hE=>?_)
                have hE:=hE.reb 44 (decide (x26_17 > 1)) true hb_59 rfl
                replace hE:=hE.cut (l':=[(0,.pointer x0),(4,.int .i64 x26_17),(41,.bool false),(44,.bool true)]) (.cons rfl (.cons rfl (.cons rfl (.cons rfl Subs.nil))))
                refine d_pureg (i:=18) (v:=.int .i64 x26_17) (unb 22 524287) rfl rfl hT (anyM hM (by kernel_rfl)) hE rfl (wanted_of rfl hE rfl rfl rfl) (fun w=>r_move hE rfl) (fun a hE=>?_)
                refine d_pureg (i:=19) (v:=.bool (decide (x26_17 < 7))) (unb 22 1048575) rfl rfl hT (anyM hM (by kernel_rfl)) hE rfl (wanted_of rfl hE rfl rfl rfl) (fun w=>r_bin hE rfl rfl g_int b_lss) (fun a hE=>?_)
                refine d_pureg (i:=20) (v:=.bool (decide (x26_17 < 7))) (unb 22 2097151) rfl rfl hT (anyM hM (by kernel_rfl)) hE rfl (wanted_of rfl hE rfl rfl rfl) (fun w=>r_pick_t hE rfl rfl) (fun a hE=>?_)
                refine d_pureg (i:=21) (v:=.bool (decide (x26_17 < 7))) (unb 22 4194303) rfl rfl hT (anyM hM (by kernel_rfl)) hE rfl (wanted_none rfl) (fun w=>r_pick_f hE rfl rfl) (fun a hE=>?_)
                refine d_done hT (doneM hM (by kernel_rfl)) ?_
                exact ⟨decide (x26_17 < 7),hE.cut (.cons rfl (.cons rfl (.cons rfl Subs.nil))),hR,H⟩
              · replace H:=M.ite_f hb_59 H
                refine reg_eq (rops:=ro218_7) (by kernel_rfl) ?_
                have hT : Tab ro218_7 _ _ _:=tab_of tb218_7 rfl (by kernel_rfl)
                have hM:=TabM.of tb218_7m
                refine d_start (m:=22) (fun w : World=>(fun h : Heap=>(hcell h ((x28_53).add 1) = some (.int .i64 x30_55)) ∧ (hcell h ((x32_54).add 0) = some (.string x34_56))) w.heap) [9,10,11,12,13,14,15,16,17,18,19,20,21] (unb 22 0) mo hR (by kernel_rfl) (by kernel_rfl) (fun w' e=>by rw [e]; exact ⟨qx30_55,qx34_56⟩) (fun w hh hR hs=>?_)
                replace H:=M.at hh H; clear hh
                refine d_pureg (i:=0) (v:=.pointer x0) (unb 22 1) rfl rfl hT (anyM hM (by kernel_rfl)) hE rfl (wanted_none rfl) (fun w=>r_move hE rfl) (fun a hE=>?_)
                refine d_pureg (i:=1) (v:=.pointer (some x28_53)) (unb 22 3) rfl rfl hT (anyM hM (by kernel_rfl)) hE rfl (wanted_none rfl) (fun w=>r_nilCheck hE (hx_eq rfl (congrArg Value.pointer qx28_53))) (fun a hE=>?_)
                refine d_pureg (i:=2) (v:=.pointer (some ((x28_53).add 1))) (unb 22 7) rfl rfl hT (anyM hM (by kernel_rfl)) hE rfl (wanted_none rfl) (fun w=>r_fieldAddr hE rfl fd146_1) (fun a hE=>?_)
                refine d_pureg (i:=4) (v:=.pointer x0) (unb 22 23) rfl rfl hT (anyM hM (by kernel_rfl)) hE rfl (wanted_none rfl) (fun w=>r_move hE rfl) (fun a hE=>?_)
                refine d_pureg (i:=5) (v:=.pointer (some x32_54)) (unb 22 55) rfl rfl hT (anyM hM (by kernel_rfl)) hE rfl (wanted_none rfl) (fun w=>r_nilCheck hE (hx_eq rfl (congrArg Value.pointer qx32_54))) (fun a hE=>?_)
                refine d_pureg (i:=6) (v:=.pointer (some ((x32_54).add 0))) (unb 22 119) rfl rfl hT (anyM hM (by kernel_rfl)) hE rfl (wanted_none rfl) (fun w=>r_fieldAddr hE rfl fd146_0) (fun a hE=>?_)
                refine d_read (i:=3) (v:=.int .i64 x30_55) (unb 22 127) rfl rfl hT (takeM hM (by kernel_rfl)) hE rfl (wanted_none rfl) hs (fun w s=>r_load hE rfl sc3 s.1) (fun a hE=>?_)
                refine d_read (i:=7) (v:=.string x34_56) (unb 22 255) rfl rfl hT (takeM hM (by kernel_rfl)) hE rfl (wanted_none rfl) hs (fun w s=>r_load hE rfl sc9 s.2) (fun a hE=>?_)
                refine d_pureg (i:=8) (v:=.int .i64 (x34_56.size : Int)) (unb 22 511) rfl rfl hT (anyM hM (by kernel_rfl)) hE rfl (wanted_none rfl) (fun w=>r_lenS hE rfl un9) (fun a hE=>?_)
                refine d_pureg (i:=9) (v:=.bool (decide (x30_55 ≥ (x34_56.size : Int)))) (unb 22 1023) rfl rfl hT (anyM hM (by kernel_rfl)) hE rfl (wanted_none rfl) (fun w=>r_bin hE rfl rfl g_int b_geq) (fun a hE=>?_)
                refine d_pureg (i:=10) (v:=.bool (decide (x30_55 ≥ (x34_56.size : Int)))) (unb 22 2047) rfl rfl hT (anyM hM (by kernel_rfl)) hE rfl (wanted_none rfl) (fun w=>r_move hE rfl) (fun a hE=>?_)
                have hE:=hE.reb 37 (decide (x30_55 ≥ (x34_56.size : Int))) false hb_57 rfl
                replace hE:=hE.cut (l':=[(0,.pointer x0),(4,.int .i64 x26_17),(37,.bool false)]) (.cons rfl (.cons rfl (.cons rfl Subs.nil)))
                refine d_pureg (i:=11) (v:=.int .i64 x26_17) (unb 22 4095) rfl rfl hT (anyM hM (by kernel_rfl)) hE rfl (wanted_of rfl hE rfl rfl rfl) (fun w=>r_move hE rfl) (fun a hE=>?_)
                refine d_pureg (i:=12) (v:=.bool (decide (x26_17 < 0))) (unb 22 8191) rfl rfl hT (anyM hM (by kernel_rfl)) hE rfl (wanted_of rfl hE rfl rfl rfl) (fun w=>r_bin hE rfl rfl g_int b_lss) (fun a hE=>?_)
                refine d_pureg (i:=13) (v:=.bool (decide (x26_17 < 0))) (unb 22 16383) rfl rfl hT (anyM hM (by kernel_rfl)) hE rfl (wanted_none rfl) (fun w=>r_pick_f hE rfl rfl) (fun a hE=>?_)
                refine d_pureg (i:=14) (v:=.bool (decide (x26_17 < 0))) (unb 22 32767) rfl rfl hT (anyM hM (by kernel_rfl)) hE rfl (wanted_none rfl) (fun w=>r_move hE rfl) (fun a hE=>?_)
                have hE:=hE.reb 41 (decide (x26_17 < 0)) false hb_58 rfl
                replace hE:=hE.cut (l':=[(0,.pointer x0),(4,.int .i64 x26_17),(41,.bool false)]) (.cons rfl (.cons rfl (.cons rfl Subs.nil)))
                refine d_pureg (i:=15) (v:=.int .i64 x26_17) (unb 22 65535) rfl rfl hT (anyM hM (by kernel_rfl)) hE rfl (wanted_of rfl hE rfl rfl rfl) (fun w=>r_move hE rfl) (fun a hE=>?_)
                refine d_pureg (i:=16) (v:=.bool (decide (x26_17 > 1))) (unb 22 131071) rfl rfl hT (anyM hM (by kernel_rfl)) hE rfl (wanted_of rfl hE rfl rfl rfl) (fun w=>r_bin hE rfl rfl g_int b_gtr) (fun a hE=>?_)
                refine d_pureg (i:=17) (v:=.bool (decide (x26_17 > 1))) (unb 22 262143) rfl rfl hT (anyM hM (by kernel_rfl)) hE rfl (wanted_of rfl hE rfl rfl rfl) (fun w=>r_move hE rfl) (fun a hE=>?_)
                have hE:=hE.reb 44 (decide (x26_17 > 1)) false hb_59 rfl
                replace hE:=hE.cut (l':=[(0,.pointer x0),(4,.int .i64 x26_17),(41,.bool false),(44,.bool false)]) (.cons rfl (.cons rfl (.cons rfl (.cons rfl Subs.nil))))
                refine d_off (i:=18) (unb 22 524287) rfl rfl hT (anyM hM (by kernel_rfl)) (unwanted_of rfl hE rfl rfl rfl) (fun a ea=>?_)
                have hE:=Env.put_some hE rfl ea; clear ea
                refine d_off (i:=19) (unb 22 1048575) rfl rfl hT (anyM hM (by kernel_rfl)) (unwanted_of rfl hE rfl rfl rfl) (fun a ea=>?_)
                have hE:=Env.put_some hE rfl ea; clear ea
                refine d_pureg (i:=20) (v:=.bool false) (unb 22 2097151) rfl rfl hT (anyM hM (by kernel_rfl)) hE rfl (wanted_of rfl hE rfl rfl rfl) (fun w=>r_pick_f hE rfl rfl) (fun a hE=>?_)
                refine d_pureg (i:=21) (v:=.bool false) (unb 22 4194303) rfl rfl hT (anyM hM (by kernel_rfl)) hE rfl (wanted_none rfl) (fun w=>r_pick_f hE rfl rfl) (fun a hE=>?_)
                refine d_done hT (doneM hM (by kernel_rfl)) ?_
                exact ⟨false,hE.cut (.cons rfl (.cons rfl (.cons rfl Subs.nil))),hR,H⟩

end Gx
namespace Gx
open Go
set_option linter.unusedVariables false
set_option maxRecDepth 100000
def value_reader_str_j2 (self1 : (Sl) → M (Value ⊕ (ByteArray))) (c3_24 : Sl) (x4_22 : Int) : M (Value ⊕ (ByteArray)):=do
  let x33_25 ← bdL ty_uint8 1 #[.int .u8 x4_22]
  let x34_26 ← apL ty_uint8 1 1 (#[.int .u8 0] : Array Value) c3_24 x33_25
  self1 x34_26
def value_reader_str_j1 (self1 : (Sl) → M (Value ⊕ (ByteArray))) (c0_14 : Option Addr) (c3_15 : Sl) (c4_16 : Int) : M (Value ⊕ (ByteArray)):=do
  let x21_18 ← nilP c0_14
  let x23_19 ← ldI .i64 ((x21_18).add 1)
  let x25_20 ← nilP c0_14
  stV ((x25_20).add 1) (.int .i64 (IntKind.wrap .i64 (x23_19 + 1)))
  M.ite (c4_16 == 92) (do
    thr (value_reader_escaped c0_14) fun x30_28=>do
      value_reader_str_j2 self1 c3_15 x30_28
    ) (do
    value_reader_str_j2 self1 c3_15 c4_16
    )
def value_reader_str_l1 (c0_7 : Option Addr) (self1 : (Sl) → M (Value ⊕ (ByteArray))) : (Sl) → M (Value ⊕ (ByteArray)):=fun s=>match s with
  | x3_6=>do
    let x8_11 ← value_reader_here c0_7
    M.ite (x8_11 != 39) (do
      let x11_13 ← value_reader_here c0_7
      let x17_30 ← M.ite (decide (x11_13 < 32)) (do
        M.pure true
        ) (do
        M.pure (decide (x11_13 > 126))
        )
      M.ite x17_30 (do
        thr (value_reader_fail c0_7) fun x19_31=>do
          value_reader_str_j1 self1 c0_7 x3_6 x11_13
        ) (do
        value_reader_str_j1 self1 c0_7 x3_6 x11_13
        )
      ) (do
      let x36_33 ← nilP c0_7
      let x38_34 ← ldI .i64 ((x36_33).add 1)
      let x40_35 ← nilP c0_7
      stV ((x40_35).add 1) (.int .i64 (IntKind.wrap .i64 (x38_34 + 1)))
      let x43_38 ← b2s x3_6
      M.pure (.inr x43_38)
      )
def value_reader_str (x0 : Option Addr) : M (Value ⊕ (ByteArray)):=do
  thr (value_reader_must x0 (⟨#[39]⟩ : ByteArray)) fun x6_5=>do
    M.loop (value_reader_str_l1 x0) Sl.nil
theorem S_value_reader_str (x0 : Option Addr) : SoundX Go.Proofs.Tryz.prog 173 #[.pointer x0] (fun (r : ByteArray)=>.string r) (value_reader_str x0):=by
  refine sound_ofX [(0,.pointer x0)] Go.Proofs.Tryz.func173 rfl rfl (Nat.le_of_ble_eq_true rfl) (args_of ⟨rfl,trivial⟩) (fun w0 w Q R X a hret hthr hE hR H=>?_)
  unfold value_reader_str at H
  refine w_seq (fun K hK_1=>?_)
  refine t_region ?_
  refine t_val (v:=.string ByteArray.empty) rfl rfl hE rfl (r_assign hE rfl) (fun a hE=>?_)
  refine t_nil ?_
  refine hK_1 _ _ ?_
  refine w_seq (fun K hK_2=>?_)
  refine t_region ?_
  refine t_val (v:=(Sl.nil : Sl).v) rfl rfl hE rfl (r_assign hE rfl) (fun a hE=>?_)
  refine t_nil ?_
  refine hK_2 _ _ ?_
  refine w_seq (fun K hK_3=>?_)
  refine w_seq (fun K hK_4=>?_)
  refine t_region ?_
  refine t_val (v:=.pointer x0) rfl rfl hE rfl (r_move hE rfl) (fun a hE=>?_)
  refine t_callX hE hR cl_value_reader_must rfl (S_value_reader_must x0 (⟨#[39]⟩ : ByteArray)) H (fun _ _ hR HQ=>hthr _ _ hR HQ) (fun x6_5 a w ea hR H=>?_)
  have hE:=Env.put_some hE rfl ea; clear ea
  refine t_nil ?_
  refine hK_4 _ _ ?_
  refine w_block ?_
  refine l_loop (fun (s : Sl)=>(⟨44,[]⟩ : Frm)) (fun (s : Sl)=>[(0,.pointer x0),(3,(s : Sl).v)]) H (hE.cut (.cons rfl (.cons rfl Subs.nil))) hR (fun Y self1 hY_8 x3_6 a w hE hR H=>?_)
  replace hE : Env (⟨44,[]⟩ : Frm) a [(0,.pointer x0),(3,(x3_6 : Sl).v)]:=hE
  replace H : (value_reader_str_l1 x0 self1 x3_6).wp w.heap Q:=H
  unfold value_reader_str_l1 at H
  refine w_seq (fun K hK_9=>?_)
  refine w_seq (fun K hK_10=>?_)
  refine t_region ?_
  refine t_val (v:=.pointer x0) rfl rfl hE rfl (r_move hE rfl) (fun a hE=>?_)
  refine t_call hE hR cl_value_reader_here rfl (S_value_reader_here x0) (M.unbind H) (fun x8_11 a w ea hR H=>?_)
  have hE:=Env.put_some hE rfl ea; clear ea
  refine t_val (v:=.bool (x8_11 != 39)) rfl rfl hE rfl (r_bin hE rfl rfl g_int b_neq) (fun a hE=>?_)
  refine t_nil ?_
  refine hK_10 _ _ ?_
  refine w_cond (x8_11 != 39) hE rfl (fun hb=>?_) (fun hb=>?_)
  · replace H:=M.ite_t hb H
    refine w_skip ?_
    refine hK_9 _ _ ?_
    refine w_block ?_
    refine w_seq (fun K hK_12=>?_)
    refine t_region ?_
    refine t_val (v:=.pointer x0) rfl rfl hE rfl (r_move hE rfl) (fun a hE=>?_)
    refine t_call hE hR cl_value_reader_here rfl (S_value_reader_here x0) (M.unbind H) (fun x11_13 a w ea hR H=>?_)
    have hE:=Env.put_some hE rfl ea; clear ea
    refine t_val (v:=.int .u8 x11_13) rfl rfl hE rfl (r_assign hE rfl) (fun a hE=>?_)
    refine t_nil ?_
    refine hK_12 _ _ ?_
    refine w_seq_join (fun a w=>Env (⟨44,[]⟩ : Frm) a [(0,.pointer x0),(3,(x3_6 : Sl).v),(4,.int .u8 x11_13)] ∧ Rest w0 w ∧ (value_reader_str_j1 self1 x0 x3_6 x11_13).wp w.heap Q) ?_ ?_
    · rintro a w ⟨hE,hR,H⟩
      unfold value_reader_str_j1 at H
      refine w_seq (fun K hK_17=>?_)
      refine t_region ?_
      refine t_val (v:=.pointer x0) rfl rfl hE rfl (r_move hE rfl) (fun a hE=>?_)
      obtain ⟨x21_18,qx21_18,H⟩:=H
      refine t_val (v:=.pointer (some x21_18)) rfl rfl hE rfl (r_nilCheck hE (hx_eq rfl (congrArg Value.pointer qx21_18))) (fun a hE=>?_)
      refine t_val (v:=.pointer (some ((x21_18).add 1))) rfl rfl hE rfl (r_fieldAddr hE rfl fd146_1) (fun a hE=>?_)
      obtain ⟨x23_19,qx23_19,H⟩:=H
      refine t_val (v:=.int .i64 x23_19) rfl rfl hE rfl (r_load hE rfl sc3 qx23_19) (fun a hE=>?_)
      refine t_val (v:=.int .i64 (IntKind.wrap .i64 (x23_19 + 1))) rfl rfl hE rfl (r_bin hE rfl rfl g_int b_add) (fun a hE=>?_)
      obtain ⟨x25_20,qx25_20,H⟩:=H
      refine t_val (v:=.pointer (some x25_20)) rfl rfl hE rfl (r_nilCheck hE (hx_eq rfl (congrArg Value.pointer qx25_20))) (fun a hE=>?_)
      refine t_val (v:=.pointer (some ((x25_20).add 1))) rfl rfl hE rfl (r_fieldAddr hE rfl fd146_1) (fun a hE=>?_)
      obtain ⟨u_21,qu_21,H⟩:=H
      refine t_sth rfl rfl hE hR (r_store hE rfl rfl sz3 qu_21) (fun a w hE hR hh=>?_)
      replace H:=M.at hh H; clear hh
      refine t_nil ?_
      refine hK_17 _ _ ?_
      refine w_seq_join (fun a w=>∃ (x4_22 : Int),Env (⟨44,[]⟩ : Frm) a [(0,.pointer x0),(3,(x3_6 : Sl).v),(4,.int .u8 x4_22)] ∧ Rest w0 w ∧ (value_reader_str_j2 self1 x3_6 x4_22).wp w.heap Q) ?_ ?_
      · rintro a w ⟨x4_22,hE,hR,H⟩
        unfold value_reader_str_j2 at H
        refine t_region ?_
        refine t_val (v:=(x3_6 : Sl).v) rfl rfl hE rfl (r_move hE rfl) (fun a hE=>?_)
        refine t_val (v:=.int .u8 x4_22) rfl rfl hE rfl (r_move hE rfl) (fun a hE=>?_)
        obtain ⟨x33_25,qx33_25,H⟩:=H
        refine t_valh (v:=(x33_25 : Sl).v) rfl rfl hE rfl hR (r_buildL (cells:=#[.int .u8 x4_22]) hE rfl un35 sz5 zr5 rfl rfl qx33_25) (fun a w hE hR hh=>?_)
        replace H:=M.at hh H; clear hh
        refine t_ex (fun x34_26=>(x34_26 : Sl).v) rfl rfl hR (M.unbind H) (fun Q H=>ap_run hE rfl rfl ap35 H) (fun x34_26 a w ea hR H=>?_)
        have hE:=Env.put_some hE rfl ea; clear ea
        refine t_val (v:=(x34_26 : Sl).v) rfl rfl hE rfl (r_assign hE rfl) (fun a hE=>?_)
        refine t_nil ?_
        exact hY_8 x34_26 _ _ (hE.cut (.cons rfl (.cons rfl Subs.nil))) hR H
      · skip
        refine w_seq (fun K hK_27=>?_)
        refine t_region ?_
        refine t_val (v:=.int .u8 x11_13) rfl rfl hE rfl (r_move hE rfl) (fun a hE=>?_)
        refine t_val (v:=.bool (x11_13 == 92)) rfl rfl hE rfl (r_bin hE rfl rfl g_int b_eql) (fun a hE=>?_)
        refine t_nil ?_
        refine hK_27 _ _ ?_
        refine w_cond (x11_13 == 92) hE rfl (fun hb=>?_) (fun hb=>?_)
        · replace H:=M.ite_t hb H
          refine t_region ?_
          refine t_val (v:=.pointer x0) rfl rfl hE rfl (r_move hE rfl) (fun a hE=>?_)
          refine t_callX hE hR cl_value_reader_escaped rfl (S_value_reader_escaped x0) H (fun _ _ hR HQ=>Xu.ne rfl (Xu.ne rfl (hthr _ _ hR HQ))) (fun x30_28 a w ea hR H=>?_)
          have hE:=Env.put_some hE rfl ea; clear ea
          refine t_val (v:=.int .u8 x30_28) rfl rfl hE rfl (r_assign hE rfl) (fun a hE=>?_)
          refine t_nil ?_
          exact ⟨x30_28,hE.cut (.cons rfl (.cons rfl (.cons rfl Subs.nil))),hR,H⟩
        · replace H:=M.ite_f hb H
          refine w_skip ?_
          exact ⟨x11_13,hE.cut (.cons rfl (.cons rfl (.cons rfl Subs.nil))),hR,H⟩
    · skip
      refine w_seq (fun K hK_29=>?_)
      refine t_region ?_
      refine t_val (v:=.int .u8 x11_13) rfl rfl hE rfl (r_move hE rfl) (fun a hE=>?_)
      refine t_val (v:=.bool (decide (x11_13 < 32))) rfl rfl hE rfl (r_bin hE rfl rfl g_int b_lss) (fun a hE=>?_)
      refine t_val (v:=.bool (decide (x11_13 < 32))) rfl rfl hE rfl (r_move hE rfl) (fun a hE=>?_)
      refine t_grp (n:=(⟨44,[]⟩ : Frm)) (w0:=w0) 3 (fun x17_30 : Bool=>[(0,.pointer x0),(3,(x3_6 : Sl).v),(4,.int .u8 x11_13),(17,.bool x17_30)]) (M.unbind H) (fun Kr hKr H=>?_) ?_
      · rcases bool_em (decide (x11_13 < 32)) with hb | hb
        · replace H:=M.ite_t hb H
          have hE:=hE.reb 14 (decide (x11_13 < 32)) true hb rfl
          refine t_off rfl hE rfl rfl rfl (fun a ea=>?_)
          have hE:=Env.put_some hE rfl ea; clear ea
          refine t_off rfl hE rfl rfl rfl (fun a ea=>?_)
          have hE:=Env.put_some hE rfl ea; clear ea
          refine t_val rfl rfl hE rfl (r_pick_t hE rfl rfl) (fun a hE=>?_)
          refine t_nil ?_
          exact hKr _ _ _ (hE.cut (.cons rfl (.cons rfl (.cons rfl (.cons rfl Subs.nil))))) hR H
        · replace H:=M.ite_f hb H
          have hE:=hE.reb 14 (decide (x11_13 < 32)) false hb rfl
          refine t_on rfl hE rfl rfl rfl ?_
          refine t_val (v:=.int .u8 x11_13) rfl rfl hE rfl (r_move hE rfl) (fun a hE=>?_)
          refine t_on rfl hE rfl rfl rfl ?_
          refine t_val (v:=.bool (decide (x11_13 > 126))) rfl rfl hE rfl (r_bin hE rfl rfl g_int b_gtr) (fun a hE=>?_)
          refine t_val rfl rfl hE rfl (r_pick_f hE rfl rfl) (fun a hE=>?_)
          refine t_nil ?_
          exact hKr _ _ _ (hE.cut (.cons rfl (.cons rfl (.cons rfl (.cons rfl Subs.nil))))) hR H
      · intro x17_30 a w hE hR H
        refine t_nil ?_
        refine hK_29 _ _ ?_
        refine w_cond x17_30 hE rfl (fun hb=>?_) (fun hb=>?_)
        · replace H:=M.ite_t hb H
          refine t_region ?_
          refine t_val (v:=.pointer x0) rfl rfl hE rfl (r_move hE rfl) (fun a hE=>?_)
          refine t_callX hE hR cl_value_reader_fail rfl (S_value_reader_fail x0) H (fun _ _ hR HQ=>Xu.ne rfl (Xu.ne rfl (hthr _ _ hR HQ))) (fun x19_31 a w ea hR H=>?_)
          have hE:=Env.put_some hE rfl ea; clear ea
          refine t_nil ?_
          exact ⟨hE.cut (.cons rfl (.cons rfl (.cons rfl Subs.nil))),hR,H⟩
        · replace H:=M.ite_f hb H
          refine w_skip ?_
          exact ⟨hE.cut (.cons rfl (.cons rfl (.cons rfl Subs.nil))),hR,H⟩
  · replace H:=M.ite_f hb H
    refine w_exit ?_
    refine Xu.same ?_
    refine hK_3 _ _ ?_
    refine w_seq (fun K hK_32=>?_)
    refine t_region ?_
    refine t_val (v:=.pointer x0) rfl rfl hE rfl (r_move hE rfl) (fun a hE=>?_)
    obtain ⟨x36_33,qx36_33,H⟩:=H
    refine t_val (v:=.pointer (some x36_33)) rfl rfl hE rfl (r_nilCheck hE (hx_eq rfl (congrArg Value.pointer qx36_33))) (fun a hE=>?_)
    refine t_val (v:=.pointer (some ((x36_33).add 1))) rfl rfl hE rfl (r_fieldAddr hE rfl fd146_1) (fun a hE=>?_)
    obtain ⟨x38_34,qx38_34,H⟩:=H
    refine t_val (v:=.int .i64 x38_34) rfl rfl hE rfl (r_load hE rfl sc3 qx38_34) (fun a hE=>?_)
    refine t_val (v:=.int .i64 (IntKind.wrap .i64 (x38_34 + 1))) rfl rfl hE rfl (r_bin hE rfl rfl g_int b_add) (fun a hE=>?_)
    obtain ⟨x40_35,qx40_35,H⟩:=H
    refine t_val (v:=.pointer (some x40_35)) rfl rfl hE rfl (r_nilCheck hE (hx_eq rfl (congrArg Value.pointer qx40_35))) (fun a hE=>?_)
    refine t_val (v:=.pointer (some ((x40_35).add 1))) rfl rfl hE rfl (r_fieldAddr hE rfl fd146_1) (fun a hE=>?_)
    obtain ⟨u_36,qu_36,H⟩:=H
    refine t_sth rfl rfl hE hR (r_store hE rfl rfl sz3 qu_36) (fun a w hE hR hh=>?_)
    replace H:=M.at hh H; clear hh
    refine t_nil ?_
    refine hK_32 _ _ ?_
    refine w_seq (fun K hK_37=>?_)
    refine t_region ?_
    refine t_val (v:=(x3_6 : Sl).v) rfl rfl hE rfl (r_move hE rfl) (fun a hE=>?_)
    obtain ⟨x43_38,qx43_38,H⟩:=H
    refine t_val (v:=.string x43_38) rfl rfl hE rfl (b2s_run hE rfl un35 un9 un5 qx43_38) (fun a hE=>?_)
    refine t_val (v:=.string x43_38) rfl rfl hE rfl (r_assign hE rfl) (fun a hE=>?_)
    refine t_nil ?_
    refine hK_37 _ _ ?_
    refine w_ret ?_
    exact hret _ _ _ x43_38 _ hE hR (res_run hE rfl (RV.tmp rfl RV.nil)) rfl H

def value_reader_element (x0 : Option Addr) (x1 : Int) : M (Value ⊕ (Array Value)):=do
  let x4_2 ← mkB ty_api_Value (#[.int .i64 0,.int .i64 0,.string ByteArray.empty,.slice none 0 0] : Array Value)
  let x7_4 ← nilP x0
  let x9_5 ← ldI .i64 ((x7_4).add 1)
  let x11_6 ← nilP x0
  stV ((x11_6).add 1) (.int .i64 (IntKind.wrap .i64 (x9_5 + 1)))
  thr (value_reader_must x0 (⟨#[91]⟩ : ByteArray)) fun x14_9=>do
    thr (value_reader_number x0) fun x17_11=>do
      let x5_12 ← mkB ty_api_Value (#[.int .i64 0,.int .i64 0,.string ByteArray.empty,.slice none 0 0] : Array Value)
      M.need ((#[.int .i64 x1,.int .i64 x17_11,.string ByteArray.empty,.slice none 0 0] : Array Value).size = 4)
      stG x5_12 (#[.int .i64 x1,.int .i64 x17_11,.string ByteArray.empty,.slice none 0 0] : Array Value)
      thr (value_reader_must x0 (⟨#[93]⟩ : ByteArray)) fun x20_15=>do
        let x21_17 ← ldG 4 x5_12
        M.need (x21_17.size = 4)
        stG x4_2 x21_17
        let r4_19 ← ldG 4 x4_2
        M.pure (.inr r4_19)
theorem S_value_reader_element (x0 : Option Addr) (x1 : Int) : SoundX Go.Proofs.Tryz.prog 175 #[.pointer x0,.int .i64 x1] (fun (r : Array Value)=>.agg r) (value_reader_element x0 x1):=by
  refine sound_ofX [(0,.pointer x0),(1,.int .i64 x1)] Go.Proofs.Tryz.func175 rfl rfl (Nat.le_of_ble_eq_true rfl) (args_of ⟨rfl,rfl,trivial⟩) (fun w0 w Q R X a hret hthr hE hR H=>?_)
  unfold value_reader_element at H
  refine w_seq (fun K hK_1=>?_)
  refine t_region ?_
  obtain ⟨x4_2,qx4_2,H⟩:=H
  refine t_valh (v:=.pointer (some x4_2)) rfl rfl hE rfl hR (r_alloc zr24 qx4_2) (fun a w hE hR hh=>?_)
  replace H:=M.at hh H; clear hh
  refine t_nil ?_
  refine hK_1 _ _ ?_
  refine w_seq (fun K hK_3=>?_)
  refine t_region ?_
  refine t_val (v:=.pointer x0) rfl rfl hE rfl (r_move hE rfl) (fun a hE=>?_)
  obtain ⟨x7_4,qx7_4,H⟩:=H
  refine t_val (v:=.pointer (some x7_4)) rfl rfl hE rfl (r_nilCheck hE (hx_eq rfl (congrArg Value.pointer qx7_4))) (fun a hE=>?_)
  refine t_val (v:=.pointer (some ((x7_4).add 1))) rfl rfl hE rfl (r_fieldAddr hE rfl fd146_1) (fun a hE=>?_)
  obtain ⟨x9_5,qx9_5,H⟩:=H
  refine t_val (v:=.int .i64 x9_5) rfl rfl hE rfl (r_load hE rfl sc3 qx9_5) (fun a hE=>?_)
  refine t_val (v:=.int .i64 (IntKind.wrap .i64 (x9_5 + 1))) rfl rfl hE rfl (r_bin hE rfl rfl g_int b_add) (fun a hE=>?_)
  obtain ⟨x11_6,qx11_6,H⟩:=H
  refine t_val (v:=.pointer (some x11_6)) rfl rfl hE rfl (r_nilCheck hE (hx_eq rfl (congrArg Value.pointer qx11_6))) (fun a hE=>?_)
  refine t_val (v:=.pointer (some ((x11_6).add 1))) rfl rfl hE rfl (r_fieldAddr hE rfl fd146_1) (fun a hE=>?_)
  obtain ⟨u_7,qu_7,H⟩:=H
  refine t_sth rfl rfl hE hR (r_store hE rfl rfl sz3 qu_7) (fun a w hE hR hh=>?_)
  replace H:=M.at hh H; clear hh
  refine t_nil ?_
  refine hK_3 _ _ ?_
  refine w_seq (fun K hK_8=>?_)
  refine t_region ?_
  refine t_val (v:=.pointer x0) rfl rfl hE rfl (r_move hE rfl) (fun a hE=>?_)
  refine t_callX hE hR cl_value_reader_must rfl (S_value_reader_must x0 (⟨#[91]⟩ : ByteArray)) H (fun _ _ hR HQ=>hthr _ _ hR HQ) (fun x14_9 a w ea hR H=>?_)
  have hE:=Env.put_some hE rfl ea; clear ea
  refine t_nil ?_
  refine hK_8 _ _ ?_
  refine w_seq (fun K hK_10=>?_)
  refine t_region ?_
  refine t_val (v:=.int .i64 x1) rfl rfl hE rfl (r_move hE rfl) (fun a hE=>?_)
  refine t_val (v:=.pointer x0) rfl rfl hE rfl (r_move hE rfl) (fun a hE=>?_)
  refine t_callX hE hR cl_value_reader_number rfl (S_value_reader_number x0) H (fun _ _ hR HQ=>hthr _ _ hR HQ) (fun x17_11 a w ea hR H=>?_)
  have hE:=Env.put_some hE rfl ea; clear ea
  refine t_val (v:=.agg (#[.int .i64 x1,.int .i64 x17_11,.string ByteArray.empty,.slice none 0 0] : Array Value)) rfl rfl hE rfl (r_build hE rfl zr24 pl24 (by rfl)) (fun a hE=>?_)
  obtain ⟨x5_12,qx5_12,H⟩:=H
  refine t_valh (v:=.pointer (some x5_12)) rfl rfl hE rfl hR (r_alloc zr24 qx5_12) (fun a w hE hR hh=>?_)
  replace H:=M.at hh H; clear hh
  obtain ⟨qz,H⟩:=H
  obtain ⟨u_13,qu_13,H⟩:=H
  refine t_sth rfl rfl hE hR (r_storeG hE rfl rfl sz24 qz qu_13) (fun a w hE hR hh=>?_)
  replace H:=M.at hh H; clear hh
  refine t_nil ?_
  refine hK_10 _ _ ?_
  refine w_seq (fun K hK_14=>?_)
  refine t_region ?_
  refine t_val (v:=.pointer x0) rfl rfl hE rfl (r_move hE rfl) (fun a hE=>?_)
  refine t_callX hE hR cl_value_reader_must rfl (S_value_reader_must x0 (⟨#[93]⟩ : ByteArray)) H (fun _ _ hR HQ=>hthr _ _ hR HQ) (fun x20_15 a w ea hR H=>?_)
  have hE:=Env.put_some hE rfl ea; clear ea
  refine t_nil ?_
  refine hK_14 _ _ ?_
  refine w_seq (fun K hK_16=>?_)
  refine t_region ?_
  obtain ⟨x21_17,qx21_17,H⟩:=H
  refine t_val (v:=.agg x21_17) rfl rfl hE rfl (r_loadG hE rfl ag24 qx21_17) (fun a hE=>?_)
  obtain ⟨qz,H⟩:=H
  obtain ⟨u_18,qu_18,H⟩:=H
  refine t_sth rfl rfl hE hR (r_storeG hE rfl rfl sz24 qz qu_18) (fun a w hE hR hh=>?_)
  replace H:=M.at hh H; clear hh
  refine t_nil ?_
  refine hK_16 _ _ ?_
  refine w_ret ?_
  obtain ⟨r4_19,qr4_19,H⟩:=H
  exact hret _ _ _ r4_19 _ hE hR (res_run hE rfl (RV.cellG rfl ag24 qr4_19 RV.nil)) rfl H

def value_reader_value_j1 (c0_3 : Option Addr) (c1_4 : Int) (c4_5 : Addr) : M (Value ⊕ (Array Value)):=do
  let x11_7 ← value_reader_here c0_3
  let x18_10 ← M.ite (x11_7 == 45) (do
    M.pure true
    ) (do
    let x17_11 ← value_digit x11_7
    M.pure x17_11
    )
  M.ite x18_10 (do
    thr (value_reader_number c0_3) fun x20_13=>do
      let x21_14 ← value_Int x20_13
      M.need (x21_14.size = 4)
      stG c4_5 x21_14
      let r4_16 ← ldG 4 c4_5
      M.pure (.inr r4_16)
    ) (do
    M.ite (x11_7 == 39) (do
      thr (value_reader_str c0_3) fun x26_19=>do
        let x27_20 ← value_Str x26_19
        M.need (x27_20.size = 4)
        stG c4_5 x27_20
        let r4_22 ← ldG 4 c4_5
        M.pure (.inr r4_22)
      ) (do
      M.ite (x11_7 == 116) (do
        thr (value_reader_must c0_3 (⟨#[116,114,117,101]⟩ : ByteArray)) fun x32_25=>do
          let x33_27 ← value_Bool true
          M.need (x33_27.size = 4)
          stG c4_5 x33_27
          let r4_29 ← ldG 4 c4_5
          M.pure (.inr r4_29)
        ) (do
        M.ite (x11_7 == 102) (do
          thr (value_reader_must c0_3 (⟨#[102,97,108,115,101]⟩ : ByteArray)) fun x38_32=>do
            let x39_34 ← value_Bool false
            M.need (x39_34.size = 4)
            stG c4_5 x39_34
            let r4_36 ← ldG 4 c4_5
            M.pure (.inr r4_36)
          ) (do
          M.ite (x11_7 == 118) (do
            thr (value_reader_element c0_3 6) fun x44_39=>do
              M.need (x44_39.size = 4)
              stG c4_5 x44_39
              let r4_41 ← ldG 4 c4_5
              M.pure (.inr r4_41)
            ) (do
            M.ite (x11_7 == 101) (do
              thr (value_reader_element c0_3 7) fun x49_44=>do
                M.need (x49_44.size = 4)
                stG c4_5 x49_44
                let r4_46 ← ldG 4 c4_5
                M.pure (.inr r4_46)
              ) (do
              M.ite (x11_7 == 91) (do
                thr (callFX Go.Proofs.Tryz.prog fn_value_reader_list #[.pointer c0_3,.int .i64 c1_4,.int .u8 93,.int .i64 1] (fun r : Sl=>(r : Sl).v)) fun x55_49=>do
                  M.need ((#[.int .i64 4,.int .i64 0,.string ByteArray.empty,(x55_49 : Sl).v] : Array Value).size = 4)
                  stG c4_5 (#[.int .i64 4,.int .i64 0,.string ByteArray.empty,(x55_49 : Sl).v] : Array Value)
                  let r4_51 ← ldG 4 c4_5
                  M.pure (.inr r4_51)
                ) (do
                M.ite (x11_7 == 123) (do
                  thr (callFX Go.Proofs.Tryz.prog fn_value_reader_list #[.pointer c0_3,.int .i64 c1_4,.int .u8 125,.int .i64 2] (fun r : Sl=>(r : Sl).v)) fun x62_54=>do
                    M.need ((#[.int .i64 5,.int .i64 0,.string ByteArray.empty,(x62_54 : Sl).v] : Array Value).size = 4)
                    stG c4_5 (#[.int .i64 5,.int .i64 0,.string ByteArray.empty,(x62_54 : Sl).v] : Array Value)
                    let r4_56 ← ldG 4 c4_5
                    M.pure (.inr r4_56)
                  ) (do
                  thr (value_reader_fail c0_3) fun x65_58=>do
                    M.need ((#[.int .i64 0,.int .i64 0,.string ByteArray.empty,.slice none 0 0] : Array Value).size = 4)
                    stG c4_5 (#[.int .i64 0,.int .i64 0,.string ByteArray.empty,.slice none 0 0] : Array Value)
                    let r4_61 ← ldG 4 c4_5
                    M.pure (.inr r4_61)
                  )
                )
              )
            )
          )
        )
      )
    )
def value_reader_value (x0 : Option Addr) (x1 : Int) : M (Value ⊕ (Array Value)):=do
  let x4_2 ← mkB ty_api_Value (#[.int .i64 0,.int .i64 0,.string ByteArray.empty,.slice none 0 0] : Array Value)
  M.ite (decide (x1 > 8)) (do
    thr (value_reader_fail x0) fun x9_63=>do
      value_reader_value_j1 x0 x1 x4_2
    ) (do
    value_reader_value_j1 x0 x1 x4_2
    )
theorem S_value_reader_value (x0 : Option Addr) (x1 : Int) : SoundX Go.Proofs.Tryz.prog 131 #[.pointer x0,.int .i64 x1] (fun (r : Array Value)=>.agg r) (value_reader_value x0 x1):=by
  refine sound_ofX [(0,.pointer x0),(1,.int .i64 x1)] Go.Proofs.Tryz.func131 rfl rfl (Nat.le_of_ble_eq_true rfl) (args_of ⟨rfl,rfl,trivial⟩) (fun w0 w Q R X a hret hthr hE hR H=>?_)
  unfold value_reader_value at H
  refine w_seq (fun K hK_1=>?_)
  refine t_region ?_
  obtain ⟨x4_2,qx4_2,H⟩:=H
  refine t_valh (v:=.pointer (some x4_2)) rfl rfl hE rfl hR (r_alloc zr24 qx4_2) (fun a w hE hR hh=>?_)
  replace H:=M.at hh H; clear hh
  refine t_nil ?_
  refine hK_1 _ _ ?_
  refine w_seq_join (fun a w=>Env (⟨67,[]⟩ : Frm) a [(0,.pointer x0),(1,.int .i64 x1),(4,.pointer (some x4_2))] ∧ Rest w0 w ∧ (value_reader_value_j1 x0 x1 x4_2).wp w.heap Q) ?_ ?_
  · rintro a w ⟨hE,hR,H⟩
    unfold value_reader_value_j1 at H
    refine w_seq (fun K hK_6=>?_)
    refine t_region ?_
    refine t_val (v:=.pointer x0) rfl rfl hE rfl (r_move hE rfl) (fun a hE=>?_)
    refine t_call hE hR cl_value_reader_here rfl (S_value_reader_here x0) (M.unbind H) (fun x11_7 a w ea hR H=>?_)
    have hE:=Env.put_some hE rfl ea; clear ea
    refine t_val (v:=.int .u8 x11_7) rfl rfl hE rfl (r_assign hE rfl) (fun a hE=>?_)
    refine t_nil ?_
    refine hK_6 _ _ ?_
    refine w_seq (fun K hK_8=>?_)
    refine w_block ?_
    refine w_seq (fun K hK_9=>?_)
    refine t_region ?_
    refine t_val (v:=.int .u8 x11_7) rfl rfl hE rfl (r_move hE rfl) (fun a hE=>?_)
    refine t_val (v:=.bool (x11_7 == 45)) rfl rfl hE rfl (r_bin hE rfl rfl g_int b_eql) (fun a hE=>?_)
    refine t_val (v:=.bool (x11_7 == 45)) rfl rfl hE rfl (r_move hE rfl) (fun a hE=>?_)
    refine t_grp (n:=(⟨67,[]⟩ : Frm)) (w0:=w0) 3 (fun x18_10 : Bool=>[(0,.pointer x0),(1,.int .i64 x1),(4,.pointer (some x4_2)),(5,.int .u8 x11_7),(18,.bool x18_10)]) (M.unbind H) (fun Kr hKr H=>?_) ?_
    · rcases bool_em (x11_7 == 45) with hb | hb
      · replace H:=M.ite_t hb H
        have hE:=hE.reb 15 (x11_7 == 45) true hb rfl
        refine t_off rfl hE rfl rfl rfl (fun a ea=>?_)
        have hE:=Env.put_some hE rfl ea; clear ea
        refine t_off rfl hE rfl rfl rfl (fun a ea=>?_)
        have hE:=Env.put_some hE rfl ea; clear ea
        refine t_val rfl rfl hE rfl (r_pick_t hE rfl rfl) (fun a hE=>?_)
        refine t_nil ?_
        exact hKr _ _ _ (hE.cut (.cons rfl (.cons rfl (.cons rfl (.cons rfl (.cons rfl Subs.nil)))))) hR H
      · replace H:=M.ite_f hb H
        have hE:=hE.reb 15 (x11_7 == 45) false hb rfl
        refine t_on rfl hE rfl rfl rfl ?_
        refine t_val (v:=.int .u8 x11_7) rfl rfl hE rfl (r_move hE rfl) (fun a hE=>?_)
        refine t_on rfl hE rfl rfl rfl ?_
        refine t_call hE hR cl_value_digit rfl (S_value_digit x11_7) (M.unbind H) (fun x17_11 a w ea hR H=>?_)
        have hE:=Env.put_some hE rfl ea; clear ea
        refine t_val rfl rfl hE rfl (r_pick_f hE rfl rfl) (fun a hE=>?_)
        refine t_nil ?_
        exact hKr _ _ _ (hE.cut (.cons rfl (.cons rfl (.cons rfl (.cons rfl (.cons rfl Subs.nil)))))) hR H
    · intro x18_10 a w hE hR H
      refine t_val (v:=.bool x18_10) rfl rfl hE rfl (r_assign hE rfl) (fun a hE=>?_)
      refine t_nil ?_
      refine hK_9 _ _ ?_
      refine w_cond x18_10 hE rfl (fun hb=>?_) (fun hb=>?_)
      · replace H:=M.ite_t hb H
        refine w_seq (fun K hK_12=>?_)
        refine t_region ?_
        refine t_val (v:=.pointer x0) rfl rfl hE rfl (r_move hE rfl) (fun a hE=>?_)
        refine t_callX hE hR cl_value_reader_number rfl (S_value_reader_number x0) H (fun _ _ hR HQ=>Xu.ne rfl (hthr _ _ hR HQ)) (fun x20_13 a w ea hR H=>?_)
        have hE:=Env.put_some hE rfl ea; clear ea
        refine t_call hE hR cl_value_Int rfl (S_value_Int x20_13) (M.unbind H) (fun x21_14 a w ea hR H=>?_)
        have hE:=Env.put_some hE rfl ea; clear ea
        obtain ⟨qz,H⟩:=H
        obtain ⟨u_15,qu_15,H⟩:=H
        refine t_sth rfl rfl hE hR (r_storeG hE rfl rfl sz24 qz qu_15) (fun a w hE hR hh=>?_)
        replace H:=M.at hh H; clear hh
        refine t_nil ?_
        refine hK_12 _ _ ?_
        refine w_ret ?_
        obtain ⟨r4_16,qr4_16,H⟩:=H
        exact hret _ _ _ r4_16 _ hE hR (res_run hE rfl (RV.cellG rfl ag24 qr4_16 RV.nil)) rfl H
      · replace H:=M.ite_f hb H
        refine w_seq (fun K hK_17=>?_)
        refine t_region ?_
        refine t_val (v:=.int .u8 x11_7) rfl rfl hE rfl (r_move hE rfl) (fun a hE=>?_)
        refine t_val (v:=.bool (x11_7 == 39)) rfl rfl hE rfl (r_bin hE rfl rfl g_int b_eql) (fun a hE=>?_)
        refine t_val (v:=.bool (x11_7 == 39)) rfl rfl hE rfl (r_assign hE rfl) (fun a hE=>?_)
        refine t_nil ?_
        refine hK_17 _ _ ?_
        refine w_cond (x11_7 == 39) hE rfl (fun hb=>?_) (fun hb=>?_)
        · replace H:=M.ite_t hb H
          refine w_seq (fun K hK_18=>?_)
          refine t_region ?_
          refine t_val (v:=.pointer x0) rfl rfl hE rfl (r_move hE rfl) (fun a hE=>?_)
          refine t_callX hE hR cl_value_reader_str rfl (S_value_reader_str x0) H (fun _ _ hR HQ=>Xu.ne rfl (hthr _ _ hR HQ)) (fun x26_19 a w ea hR H=>?_)
          have hE:=Env.put_some hE rfl ea; clear ea
          refine t_call hE hR cl_value_Str rfl (S_value_Str x26_19) (M.unbind H) (fun x27_20 a w ea hR H=>?_)
          have hE:=Env.put_some hE rfl ea; clear ea
          obtain ⟨qz,H⟩:=H
          obtain ⟨u_21,qu_21,H⟩:=H
          refine t_sth rfl rfl hE hR (r_storeG hE rfl rfl sz24 qz qu_21) (fun a w hE hR hh=>?_)
          replace H:=M.at hh H; clear hh
          refine t_nil ?_
          refine hK_18 _ _ ?_
          refine w_ret ?_
          obtain ⟨r4_22,qr4_22,H⟩:=H
          exact hret _ _ _ r4_22 _ hE hR (res_run hE rfl (RV.cellG rfl ag24 qr4_22 RV.nil)) rfl H
        · replace H:=M.ite_f hb H
          refine w_seq (fun K hK_23=>?_)
          refine t_region ?_
          refine t_val (v:=.int .u8 x11_7) rfl rfl hE rfl (r_move hE rfl) (fun a hE=>?_)
          refine t_val (v:=.bool (x11_7 == 116)) rfl rfl hE rfl (r_bin hE rfl rfl g_int b_eql) (fun a hE=>?_)
          refine t_val (v:=.bool (x11_7 == 116)) rfl rfl hE rfl (r_assign hE rfl) (fun a hE=>?_)
          refine t_nil ?_
          refine hK_23 _ _ ?_
          refine w_cond (x11_7 == 116) hE rfl (fun hb=>?_) (fun hb=>?_)
          · replace H:=M.ite_t hb H
            refine w_seq (fun K hK_24=>?_)
            refine t_region ?_
            refine t_val (v:=.pointer x0) rfl rfl hE rfl (r_move hE rfl) (fun a hE=>?_)
            refine t_callX hE hR cl_value_reader_must rfl (S_value_reader_must x0 (⟨#[116,114,117,101]⟩ : ByteArray)) H (fun _ _ hR HQ=>Xu.ne rfl (hthr _ _ hR HQ)) (fun x32_25 a w ea hR H=>?_)
            have hE:=Env.put_some hE rfl ea; clear ea
            refine t_nil ?_
            refine hK_24 _ _ ?_
            refine w_seq (fun K hK_26=>?_)
            refine t_region ?_
            refine t_call hE hR cl_value_Bool rfl (S_value_Bool true) (M.unbind H) (fun x33_27 a w ea hR H=>?_)
            have hE:=Env.put_some hE rfl ea; clear ea
            obtain ⟨qz,H⟩:=H
            obtain ⟨u_28,qu_28,H⟩:=H
            refine t_sth rfl rfl hE hR (r_storeG hE rfl rfl sz24 qz qu_28) (fun a w hE hR hh=>?_)
            replace H:=M.at hh H; clear hh
            refine t_nil ?_
            refine hK_26 _ _ ?_
            refine w_ret ?_
            obtain ⟨r4_29,qr4_29,H⟩:=H
            exact hret _ _ _ r4_29 _ hE hR (res_run hE rfl (RV.cellG rfl ag24 qr4_29 RV.nil)) rfl H
          · replace H:=M.ite_f hb H
            refine w_seq (fun K hK_30=>?_)
            refine t_region ?_
            refine t_val (v:=.int .u8 x11_7) rfl rfl hE rfl (r_move hE rfl) (fun a hE=>?_)
            refine t_val (v:=.bool (x11_7 == 102)) rfl rfl hE rfl (r_bin hE rfl rfl g_int b_eql) (fun a hE=>?_)
            refine t_val (v:=.bool (x11_7 == 102)) rfl rfl hE rfl (r_assign hE rfl) (fun a hE=>?_)
            refine t_nil ?_
            refine hK_30 _ _ ?_
            refine w_cond (x11_7 == 102) hE rfl (fun hb=>?_) (fun hb=>?_)
            · replace H:=M.ite_t hb H
              refine w_seq (fun K hK_31=>?_)
              refine t_region ?_
              refine t_val (v:=.pointer x0) rfl rfl hE rfl (r_move hE rfl) (fun a hE=>?_)
              refine t_callX hE hR cl_value_reader_must rfl (S_value_reader_must x0 (⟨#[102,97,108,115,101]⟩ : ByteArray)) H (fun _ _ hR HQ=>Xu.ne rfl (hthr _ _ hR HQ)) (fun x38_32 a w ea hR H=>?_)
              have hE:=Env.put_some hE rfl ea; clear ea
              refine t_nil ?_
              refine hK_31 _ _ ?_
              refine w_seq (fun K hK_33=>?_)
              refine t_region ?_
              refine t_call hE hR cl_value_Bool rfl (S_value_Bool false) (M.unbind H) (fun x39_34 a w ea hR H=>?_)
              have hE:=Env.put_some hE rfl ea; clear ea
              obtain ⟨qz,H⟩:=H
              obtain ⟨u_35,qu_35,H⟩:=H
              refine t_sth rfl rfl hE hR (r_storeG hE rfl rfl sz24 qz qu_35) (fun a w hE hR hh=>?_)
              replace H:=M.at hh H; clear hh
              refine t_nil ?_
              refine hK_33 _ _ ?_
              refine w_ret ?_
              obtain ⟨r4_36,qr4_36,H⟩:=H
              exact hret _ _ _ r4_36 _ hE hR (res_run hE rfl (RV.cellG rfl ag24 qr4_36 RV.nil)) rfl H
            · replace H:=M.ite_f hb H
              refine w_seq (fun K hK_37=>?_)
              refine t_region ?_
              refine t_val (v:=.int .u8 x11_7) rfl rfl hE rfl (r_move hE rfl) (fun a hE=>?_)
              refine t_val (v:=.bool (x11_7 == 118)) rfl rfl hE rfl (r_bin hE rfl rfl g_int b_eql) (fun a hE=>?_)
              refine t_val (v:=.bool (x11_7 == 118)) rfl rfl hE rfl (r_assign hE rfl) (fun a hE=>?_)
              refine t_nil ?_
              refine hK_37 _ _ ?_
              refine w_cond (x11_7 == 118) hE rfl (fun hb=>?_) (fun hb=>?_)
              · replace H:=M.ite_t hb H
                refine w_seq (fun K hK_38=>?_)
                refine t_region ?_
                refine t_val (v:=.pointer x0) rfl rfl hE rfl (r_move hE rfl) (fun a hE=>?_)
                refine t_callX hE hR cl_value_reader_element rfl (S_value_reader_element x0 6) H (fun _ _ hR HQ=>Xu.ne rfl (hthr _ _ hR HQ)) (fun x44_39 a w ea hR H=>?_)
                have hE:=Env.put_some hE rfl ea; clear ea
                obtain ⟨qz,H⟩:=H
                obtain ⟨u_40,qu_40,H⟩:=H
                refine t_sth rfl rfl hE hR (r_storeG hE rfl rfl sz24 qz qu_40) (fun a w hE hR hh=>?_)
                replace H:=M.at hh H; clear hh
                refine t_nil ?_
                refine hK_38 _ _ ?_
                refine w_ret ?_
                obtain ⟨r4_41,qr4_41,H⟩:=H
                exact hret _ _ _ r4_41 _ hE hR (res_run hE rfl (RV.cellG rfl ag24 qr4_41 RV.nil)) rfl H
              · replace H:=M.ite_f hb H
                refine w_seq (fun K hK_42=>?_)
                refine t_region ?_
                refine t_val (v:=.int .u8 x11_7) rfl rfl hE rfl (r_move hE rfl) (fun a hE=>?_)
                refine t_val (v:=.bool (x11_7 == 101)) rfl rfl hE rfl (r_bin hE rfl rfl g_int b_eql) (fun a hE=>?_)
                refine t_val (v:=.bool (x11_7 == 101)) rfl rfl hE rfl (r_assign hE rfl) (fun a hE=>?_)
                refine t_nil ?_
                refine hK_42 _ _ ?_
                refine w_cond (x11_7 == 101) hE rfl (fun hb=>?_) (fun hb=>?_)
                · replace H:=M.ite_t hb H
                  refine w_seq (fun K hK_43=>?_)
                  refine t_region ?_
                  refine t_val (v:=.pointer x0) rfl rfl hE rfl (r_move hE rfl) (fun a hE=>?_)
                  refine t_callX hE hR cl_value_reader_element rfl (S_value_reader_element x0 7) H (fun _ _ hR HQ=>Xu.ne rfl (hthr _ _ hR HQ)) (fun x49_44 a w ea hR H=>?_)
                  have hE:=Env.put_some hE rfl ea; clear ea
                  obtain ⟨qz,H⟩:=H
                  obtain ⟨u_45,qu_45,H⟩:=H
                  refine t_sth rfl rfl hE hR (r_storeG hE rfl rfl sz24 qz qu_45) (fun a w hE hR hh=>?_)
                  replace H:=M.at hh H; clear hh
                  refine t_nil ?_
                  refine hK_43 _ _ ?_
                  refine w_ret ?_
                  obtain ⟨r4_46,qr4_46,H⟩:=H
                  exact hret _ _ _ r4_46 _ hE hR (res_run hE rfl (RV.cellG rfl ag24 qr4_46 RV.nil)) rfl H
                · replace H:=M.ite_f hb H
                  refine w_seq (fun K hK_47=>?_)
                  refine t_region ?_
                  refine t_val (v:=.int .u8 x11_7) rfl rfl hE rfl (r_move hE rfl) (fun a hE=>?_)
                  refine t_val (v:=.bool (x11_7 == 91)) rfl rfl hE rfl (r_bin hE rfl rfl g_int b_eql) (fun a hE=>?_)
                  refine t_val (v:=.bool (x11_7 == 91)) rfl rfl hE rfl (r_assign hE rfl) (fun a hE=>?_)
                  refine t_nil ?_
                  refine hK_47 _ _ ?_
                  refine w_cond (x11_7 == 91) hE rfl (fun hb=>?_) (fun hb=>?_)
                  · replace H:=M.ite_t hb H
                    refine w_seq (fun K hK_48=>?_)
                    refine t_region ?_
                    refine t_val (v:=.pointer x0) rfl rfl hE rfl (r_move hE rfl) (fun a hE=>?_)
                    refine t_val (v:=.int .i64 x1) rfl rfl hE rfl (r_move hE rfl) (fun a hE=>?_)
                    refine t_callX hE hR cl_value_reader_list rfl (sound_callFX) H (fun _ _ hR HQ=>Xu.ne rfl (hthr _ _ hR HQ)) (fun x55_49 a w ea hR H=>?_)
                    have hE:=Env.put_some hE rfl ea; clear ea
                    refine t_val (v:=.agg (#[.int .i64 4,.int .i64 0,.string ByteArray.empty,(x55_49 : Sl).v] : Array Value)) rfl rfl hE rfl (r_build hE rfl zr24 pl24 (by rfl)) (fun a hE=>?_)
                    obtain ⟨qz,H⟩:=H
                    obtain ⟨u_50,qu_50,H⟩:=H
                    refine t_sth rfl rfl hE hR (r_storeG hE rfl rfl sz24 qz qu_50) (fun a w hE hR hh=>?_)
                    replace H:=M.at hh H; clear hh
                    refine t_nil ?_
                    refine hK_48 _ _ ?_
                    refine w_ret ?_
                    obtain ⟨r4_51,qr4_51,H⟩:=H
                    exact hret _ _ _ r4_51 _ hE hR (res_run hE rfl (RV.cellG rfl ag24 qr4_51 RV.nil)) rfl H
                  · replace H:=M.ite_f hb H
                    refine w_seq (fun K hK_52=>?_)
                    refine t_region ?_
                    refine t_val (v:=.int .u8 x11_7) rfl rfl hE rfl (r_move hE rfl) (fun a hE=>?_)
                    refine t_val (v:=.bool (x11_7 == 123)) rfl rfl hE rfl (r_bin hE rfl rfl g_int b_eql) (fun a hE=>?_)
                    refine t_val (v:=.bool (x11_7 == 123)) rfl rfl hE rfl (r_assign hE rfl) (fun a hE=>?_)
                    refine t_nil ?_
                    refine hK_52 _ _ ?_
                    refine w_cond (x11_7 == 123) hE rfl (fun hb=>?_) (fun hb=>?_)
                    · replace H:=M.ite_t hb H
                      refine w_seq (fun K hK_53=>?_)
                      refine t_region ?_
                      refine t_val (v:=.pointer x0) rfl rfl hE rfl (r_move hE rfl) (fun a hE=>?_)
                      refine t_val (v:=.int .i64 x1) rfl rfl hE rfl (r_move hE rfl) (fun a hE=>?_)
                      refine t_callX hE hR cl_value_reader_list rfl (sound_callFX) H (fun _ _ hR HQ=>Xu.ne rfl (hthr _ _ hR HQ)) (fun x62_54 a w ea hR H=>?_)
                      have hE:=Env.put_some hE rfl ea; clear ea
                      refine t_val (v:=.agg (#[.int .i64 5,.int .i64 0,.string ByteArray.empty,(x62_54 : Sl).v] : Array Value)) rfl rfl hE rfl (r_build hE rfl zr24 pl24 (by rfl)) (fun a hE=>?_)
                      obtain ⟨qz,H⟩:=H
                      obtain ⟨u_55,qu_55,H⟩:=H
                      refine t_sth rfl rfl hE hR (r_storeG hE rfl rfl sz24 qz qu_55) (fun a w hE hR hh=>?_)
                      replace H:=M.at hh H; clear hh
                      refine t_nil ?_
                      refine hK_53 _ _ ?_
                      refine w_ret ?_
                      obtain ⟨r4_56,qr4_56,H⟩:=H
                      exact hret _ _ _ r4_56 _ hE hR (res_run hE rfl (RV.cellG rfl ag24 qr4_56 RV.nil)) rfl H
                    · replace H:=M.ite_f hb H
                      refine w_skip ?_
                      refine hK_8 _ _ ?_
                      refine w_seq (fun K hK_57=>?_)
                      refine t_region ?_
                      refine t_val (v:=.pointer x0) rfl rfl hE rfl (r_move hE rfl) (fun a hE=>?_)
                      refine t_callX hE hR cl_value_reader_fail rfl (S_value_reader_fail x0) H (fun _ _ hR HQ=>hthr _ _ hR HQ) (fun x65_58 a w ea hR H=>?_)
                      have hE:=Env.put_some hE rfl ea; clear ea
                      refine t_nil ?_
                      refine hK_57 _ _ ?_
                      refine w_seq (fun K hK_59=>?_)
                      refine t_region ?_
                      refine t_val (v:=.agg (#[.int .i64 0,.int .i64 0,.string ByteArray.empty,.slice none 0 0] : Array Value)) rfl rfl hE rfl (r_build0 bd24) (fun a hE=>?_)
                      obtain ⟨qz,H⟩:=H
                      obtain ⟨u_60,qu_60,H⟩:=H
                      refine t_sth rfl rfl hE hR (r_storeG hE rfl rfl sz24 qz qu_60) (fun a w hE hR hh=>?_)
                      replace H:=M.at hh H; clear hh
                      refine t_nil ?_
                      refine hK_59 _ _ ?_
                      refine w_ret ?_
                      obtain ⟨r4_61,qr4_61,H⟩:=H
                      exact hret _ _ _ r4_61 _ hE hR (res_run hE rfl (RV.cellG rfl ag24 qr4_61 RV.nil)) rfl H
  · skip
    refine w_seq (fun K hK_62=>?_)
    refine t_region ?_
    refine t_val (v:=.int .i64 x1) rfl rfl hE rfl (r_move hE rfl) (fun a hE=>?_)
    refine t_val (v:=.bool (decide (x1 > 8))) rfl rfl hE rfl (r_bin hE rfl rfl g_int b_gtr) (fun a hE=>?_)
    refine t_nil ?_
    refine hK_62 _ _ ?_
    refine w_cond (decide (x1 > 8)) hE rfl (fun hb=>?_) (fun hb=>?_)
    · replace H:=M.ite_t hb H
      refine t_region ?_
      refine t_val (v:=.pointer x0) rfl rfl hE rfl (r_move hE rfl) (fun a hE=>?_)
      refine t_callX hE hR cl_value_reader_fail rfl (S_value_reader_fail x0) H (fun _ _ hR HQ=>hthr _ _ hR HQ) (fun x9_63 a w ea hR H=>?_)
      have hE:=Env.put_some hE rfl ea; clear ea
      refine t_nil ?_
      exact ⟨hE.cut (.cons rfl (.cons rfl (.cons rfl Subs.nil))),hR,H⟩
    · replace H:=M.ite_f hb H
      refine w_skip ?_
      exact ⟨hE.cut (.cons rfl (.cons rfl (.cons rfl Subs.nil))),hR,H⟩

def num_told (x0 : Int) (x1 : Bool) : M (Int × Int):=do
  M.ite (!x1) (do
    M.pure (0,7)
    ) (do
    M.pure (x0,0)
    )
theorem S_num_told (x0 : Int) (x1 : Bool) : Sound Go.Proofs.Tryz.prog 141 #[.int .i64 x0,.bool x1] (fun (r : Int × Int)=>.tuple #[.int .i64 r.1,.int .i64 r.2]) (num_told x0 x1):=by
  refine sound_of [(0,.int .i64 x0),(1,.bool x1)] Go.Proofs.Tryz.func141 rfl rfl (Nat.le_of_ble_eq_true rfl) (args_of ⟨rfl,rfl,trivial⟩) (fun w0 w Q R a hret hE hR H=>?_)
  unfold num_told at H
  refine w_seq (fun K hK_1=>?_)
  refine t_region ?_
  refine t_val (v:=.int .i64 0) rfl rfl hE rfl (r_assign hE rfl) (fun a hE=>?_)
  refine t_val (v:=.int .i64 0) rfl rfl hE rfl (r_assign hE rfl) (fun a hE=>?_)
  refine t_nil ?_
  refine hK_1 _ _ ?_
  refine w_seq (fun K hK_2=>?_)
  refine w_seq (fun K hK_3=>?_)
  refine t_region ?_
  refine t_val (v:=.bool x1) rfl rfl hE rfl (r_move hE rfl) (fun a hE=>?_)
  refine t_val (v:=.bool (!x1)) rfl rfl hE rfl (r_un hE rfl u_not) (fun a hE=>?_)
  refine t_nil ?_
  refine hK_3 _ _ ?_
  refine w_cond (!x1) hE rfl (fun hb=>?_) (fun hb=>?_)
  · replace H:=M.ite_t hb H
    refine w_seq (fun K hK_4=>?_)
    refine t_region ?_
    refine t_val (v:=.int .i64 0) rfl rfl hE rfl (r_assign hE rfl) (fun a hE=>?_)
    refine t_val (v:=.int .i64 7) rfl rfl hE rfl (r_assign hE rfl) (fun a hE=>?_)
    refine t_nil ?_
    refine hK_4 _ _ ?_
    refine w_ret ?_
    exact hret _ _ _ (0,7) _ hE hR (res_run hE rfl (RV.tmp rfl (RV.tmp rfl RV.nil))) rfl H
  · replace H:=M.ite_f hb H
    refine w_skip ?_
    refine hK_2 _ _ ?_
    refine w_seq (fun K hK_5=>?_)
    refine t_region ?_
    refine t_val (v:=.int .i64 x0) rfl rfl hE rfl (r_move hE rfl) (fun a hE=>?_)
    refine t_val (v:=.int .i64 x0) rfl rfl hE rfl (r_assign hE rfl) (fun a hE=>?_)
    refine t_val (v:=.int .i64 0) rfl rfl hE rfl (r_assign hE rfl) (fun a hE=>?_)
    refine t_nil ?_
    refine hK_5 _ _ ?_
    refine w_ret ?_
    exact hret _ _ _ (x0,0) _ hE hR (res_run hE rfl (RV.tmp rfl (RV.tmp rfl RV.nil))) rfl H

def slices_IndexFunc_slbyte_byte_l1 (c0_5 : Sl) (c1_6 : Value) (c7_7 : Int) (self1 : (Int) → M (Int)) : (Int) → M (Int):=fun s=>match s with
  | x8_4=>do
    M.ite (decide (x8_4 < c7_7)) (do
      let x14_14 ← ixL c0_5 x8_4 1
      let x15_15 ← ldI .u8 x14_14
      let x16_16 ← callV Go.Proofs.Tryz.prog (fun r : Bool=>.bool r) c1_6 [.int .u8 x15_15]
      M.ite x16_16 (do
        M.pure x8_4
        ) (do
        self1 (IntKind.wrap .i64 (x8_4 + 1))
        )
      ) (do
      M.pure (-1)
      )
def slices_IndexFunc_slbyte_byte (x0 : Sl) (x1 : Value) : M (Int):=do
  M.loop (slices_IndexFunc_slbyte_byte_l1 x0 x1 (x0.len : Int)) 0
theorem S_slices_IndexFunc_slbyte_byte (x0 : Sl) (x1 : Value) : Sound Go.Proofs.Tryz.prog 200 #[(x0 : Sl).v,x1] (fun (r : Int)=>.int .i64 r) (slices_IndexFunc_slbyte_byte x0 x1):=by
  refine sound_of [(0,(x0 : Sl).v),(1,x1)] Go.Proofs.Tryz.func200 rfl rfl (Nat.le_of_ble_eq_true rfl) (args_of ⟨rfl,rfl,trivial⟩) (fun w0 w Q R a hret hE hR H=>?_)
  unfold slices_IndexFunc_slbyte_byte at H
  refine w_seq (fun K hK_1=>?_)
  refine t_region ?_
  refine t_val (v:=.int .i64 0) rfl rfl hE rfl (r_assign hE rfl) (fun a hE=>?_)
  refine t_nil ?_
  refine hK_1 _ _ ?_
  refine w_seq (fun K hK_2=>?_)
  refine w_seq (fun K hK_3=>?_)
  refine t_region ?_
  refine t_val (v:=(x0 : Sl).v) rfl rfl hE rfl (r_move hE rfl) (fun a hE=>?_)
  refine t_val (v:=.int .i64 (x0.len : Int)) rfl rfl hE rfl (r_len hE rfl 5 un35) (fun a hE=>?_)
  refine t_val (v:=.int .i64 0) rfl rfl hE rfl (r_move hE rfl) (fun a hE=>?_)
  refine t_nil ?_
  refine hK_3 _ _ ?_
  refine w_block ?_
  refine l_loop (fun (s : Int)=>(⟨19,[]⟩ : Frm)) (fun (s : Int)=>[(0,(x0 : Sl).v),(1,x1),(7,.int .i64 (x0.len : Int)),(8,.int .i64 s)]) H (hE.cut (.cons rfl (.cons rfl (.cons rfl (.cons rfl Subs.nil))))) hR (fun Y self1 hY_8 x8_4 a w hE hR H=>?_)
  replace hE : Env (⟨19,[]⟩ : Frm) a [(0,(x0 : Sl).v),(1,x1),(7,.int .i64 (x0.len : Int)),(8,.int .i64 x8_4)]:=hE
  replace H : (slices_IndexFunc_slbyte_byte_l1 x0 x1 (x0.len : Int) self1 x8_4).wp w.heap Q:=H
  unfold slices_IndexFunc_slbyte_byte_l1 at H
  refine w_seq (fun K hK_9=>?_)
  refine t_region ?_
  refine t_val (v:=.bool (decide (x8_4 < (x0.len : Int)))) rfl rfl hE rfl (r_bin hE rfl rfl g_int b_lss) (fun a hE=>?_)
  refine t_nil ?_
  refine hK_9 _ _ ?_
  refine w_seq (fun K hK_10=>?_)
  refine w_cond (decide (x8_4 < (x0.len : Int))) hE rfl (fun hb=>?_) (fun hb=>?_)
  · replace H:=M.ite_t hb H
    refine w_skip ?_
    refine hK_10 _ _ ?_
    refine w_seq (fun K hK_11=>?_)
    refine w_block ?_
    refine w_seq (fun K hK_12=>?_)
    refine t_region ?_
    refine t_val (v:=.int .i64 x8_4) rfl rfl hE rfl (r_move hE rfl) (fun a hE=>?_)
    refine t_val (v:=.int .i64 x8_4) rfl rfl hE rfl (r_assign hE rfl) (fun a hE=>?_)
    refine t_nil ?_
    refine hK_12 _ _ ?_
    refine w_seq (fun K hK_13=>?_)
    refine t_region ?_
    refine t_val (v:=x1) rfl rfl hE rfl (r_move hE rfl) (fun a hE=>?_)
    refine t_val (v:=(x0 : Sl).v) rfl rfl hE rfl (r_move hE rfl) (fun a hE=>?_)
    refine t_val (v:=.int .i64 x8_4) rfl rfl hE rfl (r_move hE rfl) (fun a hE=>?_)
    obtain ⟨x14_14,qx14_14,H⟩:=H
    refine t_val (v:=.pointer (some x14_14)) rfl rfl hE rfl (r_indexAddrL hE rfl rfl un35 sz5 qx14_14) (fun a hE=>?_)
    obtain ⟨x15_15,qx15_15,H⟩:=H
    refine t_val (v:=.int .u8 x15_15) rfl rfl hE rfl (r_load hE rfl sc5 qx15_15) (fun a hE=>?_)
    refine t_callV hE hR rfl rfl (M.unbind H) (fun x16_16 a w ea hR H=>?_)
    have hE:=Env.put_some hE rfl ea; clear ea
    refine t_nil ?_
    refine hK_13 _ _ ?_
    refine w_cond x16_16 hE rfl (fun hb=>?_) (fun hb=>?_)
    · replace H:=M.ite_t hb H
      refine w_seq (fun K hK_17=>?_)
      refine t_region ?_
      refine t_val (v:=.int .i64 x8_4) rfl rfl hE rfl (r_move hE rfl) (fun a hE=>?_)
      refine t_val (v:=.int .i64 x8_4) rfl rfl hE rfl (r_assign hE rfl) (fun a hE=>?_)
      refine t_nil ?_
      refine hK_17 _ _ ?_
      refine w_ret ?_
      exact hret _ _ _ x8_4 _ hE hR (res_run hE rfl (RV.tmp rfl RV.nil)) rfl H
    · replace H:=M.ite_f hb H
      refine w_skip ?_
      refine hK_11 _ _ ?_
      refine t_region ?_
      refine t_val (v:=.int .i64 (IntKind.wrap .i64 (x8_4 + 1))) rfl rfl hE rfl (r_bin hE rfl rfl g_int b_add) (fun a hE=>?_)
      refine t_val (v:=.int .i64 (IntKind.wrap .i64 (x8_4 + 1))) rfl rfl hE rfl (r_move hE rfl) (fun a hE=>?_)
      refine t_nil ?_
      exact hY_8 (IntKind.wrap .i64 (x8_4 + 1)) _ _ (hE.cut (.cons rfl (.cons rfl (.cons rfl (.cons rfl Subs.nil))))) hR H
  · replace H:=M.ite_f hb H
    refine w_exit ?_
    refine Xu.same ?_
    refine hK_2 _ _ ?_
    refine w_seq (fun K hK_18=>?_)
    refine t_region ?_
    refine t_val (v:=.int .i64 (-1)) rfl rfl hE rfl (r_assign hE rfl) (fun a hE=>?_)
    refine t_nil ?_
    refine hK_18 _ _ ?_
    refine w_ret ?_
    exact hret _ _ _ (-1) _ hE hR (res_run hE rfl (RV.tmp rfl RV.nil)) rfl H

def slices_ContainsFunc_slbyte_byte (x0 : Sl) (x1 : Value) : M (Bool):=do
  let x7_3 ← slices_IndexFunc_slbyte_byte x0 x1
  M.pure (decide (x7_3 ≥ 0))
theorem S_slices_ContainsFunc_slbyte_byte (x0 : Sl) (x1 : Value) : Sound Go.Proofs.Tryz.prog 159 #[(x0 : Sl).v,x1] (fun (r : Bool)=>.bool r) (slices_ContainsFunc_slbyte_byte x0 x1):=by
  refine sound_of [(0,(x0 : Sl).v),(1,x1)] Go.Proofs.Tryz.func159 rfl rfl (Nat.le_of_ble_eq_true rfl) (args_of ⟨rfl,rfl,trivial⟩) (fun w0 w Q R a hret hE hR H=>?_)
  unfold slices_ContainsFunc_slbyte_byte at H
  refine w_seq (fun K hK_1=>?_)
  refine t_region ?_
  refine t_val (v:=.bool false) rfl rfl hE rfl (r_assign hE rfl) (fun a hE=>?_)
  refine t_nil ?_
  refine hK_1 _ _ ?_
  refine w_seq (fun K hK_2=>?_)
  refine t_region ?_
  refine t_val (v:=(x0 : Sl).v) rfl rfl hE rfl (r_move hE rfl) (fun a hE=>?_)
  refine t_val (v:=x1) rfl rfl hE rfl (r_move hE rfl) (fun a hE=>?_)
  refine t_call hE hR cl_slices_IndexFunc_slbyte_byte rfl (S_slices_IndexFunc_slbyte_byte x0 x1) (M.unbind H) (fun x7_3 a w ea hR H=>?_)
  have hE:=Env.put_some hE rfl ea; clear ea
  refine t_val (v:=.bool (decide (x7_3 ≥ 0))) rfl rfl hE rfl (r_bin hE rfl rfl g_int b_geq) (fun a hE=>?_)
  refine t_val (v:=.bool (decide (x7_3 ≥ 0))) rfl rfl hE rfl (r_assign hE rfl) (fun a hE=>?_)
  refine t_nil ?_
  refine hK_2 _ _ ?_
  refine w_ret ?_
  exact hret _ _ _ (decide (x7_3 ≥ 0)) _ hE hR (res_run hE rfl (RV.tmp rfl RV.nil)) rfl H

def internal_stringslite_Clone (x0 : ByteArray) : M (ByteArray):=do
  M.ite ((x0.size : Int) == 0) (do
    M.pure ByteArray.empty
    ) (do
    let x9_6 ← mkS ty_uint8 1 1 (#[.int .u8 0] : Array Value) (x0.size : Int) (x0.size : Int)
    let x12_8 ← cpSt x9_6 x0
    let x14_10 ← ixL x9_6 0 1
    let x17_11 ← uStr ty_uint8 (some x14_10) (x9_6.len : Int)
    M.pure x17_11
    )
theorem S_internal_stringslite_Clone (x0 : ByteArray) : Sound Go.Proofs.Tryz.prog 253 #[.string x0] (fun (r : ByteArray)=>.string r) (internal_stringslite_Clone x0):=by
  refine sound_of [(0,.string x0)] Go.Proofs.Tryz.func253 rfl rfl (Nat.le_of_ble_eq_true rfl) (args_of ⟨rfl,trivial⟩) (fun w0 w Q R a hret hE hR H=>?_)
  unfold internal_stringslite_Clone at H
  refine w_seq (fun K hK_1=>?_)
  refine t_region ?_
  refine t_val (v:=.string ByteArray.empty) rfl rfl hE rfl (r_assign hE rfl) (fun a hE=>?_)
  refine t_nil ?_
  refine hK_1 _ _ ?_
  refine w_seq (fun K hK_2=>?_)
  refine w_seq (fun K hK_3=>?_)
  refine t_region ?_
  refine t_val (v:=.string x0) rfl rfl hE rfl (r_move hE rfl) (fun a hE=>?_)
  refine t_val (v:=.int .i64 (x0.size : Int)) rfl rfl hE rfl (r_lenS hE rfl un9) (fun a hE=>?_)
  refine t_val (v:=.bool ((x0.size : Int) == 0)) rfl rfl hE rfl (r_bin hE rfl rfl g_int b_eql) (fun a hE=>?_)
  refine t_nil ?_
  refine hK_3 _ _ ?_
  refine w_cond ((x0.size : Int) == 0) hE rfl (fun hb=>?_) (fun hb=>?_)
  · replace H:=M.ite_t hb H
    refine w_seq (fun K hK_4=>?_)
    refine t_region ?_
    refine t_val (v:=.string ByteArray.empty) rfl rfl hE rfl (r_assign hE rfl) (fun a hE=>?_)
    refine t_nil ?_
    refine hK_4 _ _ ?_
    refine w_ret ?_
    exact hret _ _ _ ByteArray.empty _ hE hR (res_run hE rfl (RV.tmp rfl RV.nil)) rfl H
  · replace H:=M.ite_f hb H
    refine w_skip ?_
    refine hK_2 _ _ ?_
    refine w_seq (fun K hK_5=>?_)
    refine t_region ?_
    refine t_val (v:=.string x0) rfl rfl hE rfl (r_move hE rfl) (fun a hE=>?_)
    refine t_val (v:=.int .i64 (x0.size : Int)) rfl rfl hE rfl (r_lenS hE rfl un9) (fun a hE=>?_)
    refine t_ex (fun x9_6=>(x9_6 : Sl).v) rfl rfl hR (M.unbind H) (fun Q H=>mkS_run hE rfl rfl ap35 H) (fun x9_6 a w ea hR H=>?_)
    have hE:=Env.put_some hE rfl ea; clear ea
    refine t_val (v:=(x9_6 : Sl).v) rfl rfl hE rfl (r_assign hE rfl) (fun a hE=>?_)
    refine t_nil ?_
    refine hK_5 _ _ ?_
    refine w_seq (fun K hK_7=>?_)
    refine t_region ?_
    refine t_val (v:=(x9_6 : Sl).v) rfl rfl hE rfl (r_move hE rfl) (fun a hE=>?_)
    refine t_val (v:=.string x0) rfl rfl hE rfl (r_move hE rfl) (fun a hE=>?_)
    refine t_ex (fun x12_8=>.int .i64 x12_8) rfl rfl hR (M.unbind H) (fun Q H=>cpSt_run hE rfl rfl un35 sz5 H) (fun x12_8 a w ea hR H=>?_)
    have hE:=Env.put_some hE rfl ea; clear ea
    refine t_nil ?_
    refine hK_7 _ _ ?_
    refine w_seq (fun K hK_9=>?_)
    refine t_region ?_
    refine t_val (v:=(x9_6 : Sl).v) rfl rfl hE rfl (r_move hE rfl) (fun a hE=>?_)
    obtain ⟨x14_10,qx14_10,H⟩:=H
    refine t_val (v:=.pointer (some x14_10)) rfl rfl hE rfl (r_indexAddrL hE rfl rfl un35 sz5 qx14_10) (fun a hE=>?_)
    refine t_val (v:=(x9_6 : Sl).v) rfl rfl hE rfl (r_move hE rfl) (fun a hE=>?_)
    refine t_val (v:=.int .i64 (x9_6.len : Int)) rfl rfl hE rfl (r_len hE rfl 5 un35) (fun a hE=>?_)
    refine t_ex (fun x17_11=>.string x17_11) rfl rfl hR (M.unbind H) (fun Q H=>uStr_run hE rfl rfl un165 co5 H) (fun x17_11 a w ea hR H=>?_)
    have hE:=Env.put_some hE rfl ea; clear ea
    refine t_val (v:=.string x17_11) rfl rfl hE rfl (r_assign hE rfl) (fun a hE=>?_)
    refine t_nil ?_
    refine hK_9 _ _ ?_
    refine w_ret ?_
    exact hret _ _ _ x17_11 _ hE hR (res_run hE rfl (RV.tmp rfl RV.nil)) rfl H

theorem tb233_1 : tabAt Go.Proofs.Tryz.f233 1 [[],[],[1],[],[0,2,3],[4],[5,2,0,1,2,3,4,5]] [[],[],[1],[],[0,2,3],[4],[5]] [[],[],[1],[],[0,1,2,3],[0,1,2,3,4],[0,1,2,3,4,5]] = true:=by kernel_rfl
def strconv_rangeError (x0 : ByteArray) (x1 : ByteArray) : M (Option Addr):=do
  let x8_3 ← ldV (⟨5,0,none⟩ : Addr)
  let x7_4 ← internal_stringslite_Clone x1
  chk (fun h : Heap=>(hcell h (⟨5,0,none⟩ : Addr) = some (x8_3)))
  let x9_5 ← fillG [(0,1),(1,1),(2,1)] (#[.string ByteArray.empty,.string ByteArray.empty,.nilIface] : Array Value) [(0,.string x0),(1,.string x7_4),(2,x8_3)]
  let x10_6 ← mkB ty_strconv_NumError x9_5
  M.pure (some x10_6)
theorem S_strconv_rangeError (x0 : ByteArray) (x1 : ByteArray) : Sound Go.Proofs.Tryz.prog 233 #[.string x0,.string x1] (fun (r : Option Addr)=>.pointer r) (strconv_rangeError x0 x1):=by
  refine sound_of [(0,.string x0),(1,.string x1)] Go.Proofs.Tryz.func233 rfl rfl (Nat.le_of_ble_eq_true rfl) (args_of ⟨rfl,rfl,trivial⟩) (fun w0 w Q R a hret hE hR H=>?_)
  unfold strconv_rangeError at H
  refine w_seq (fun K hK_1=>?_)
  refine t_region ?_
  refine t_val (v:=.pointer (none : Option Addr)) rfl rfl hE rfl (r_assign hE rfl) (fun a hE=>?_)
  refine t_nil ?_
  refine hK_1 _ _ ?_
  refine w_seq (fun K hK_2=>?_)
  obtain ⟨x8_3,qx8_3,H⟩:=H
  have hT:=tab_of tb233_1 rfl rfl
  refine d_start (fun w : World=>(fun h : Heap=>(hcell h (⟨5,0,none⟩ : Addr) = some (x8_3))) w.heap) [4,5,6] #[false,false,false,false,false,false,false] mo hR rfl rfl (fun w' e=>by rw [e]; exact qx8_3) (fun w hh hR hs=>?_)
  replace H:=M.at hh H; clear hh
  refine d_pureg (i:=0) (v:=.string x0) #[true,false,false,false,false,false,false] rfl rfl hT (by kernel_rfl) hE rfl (wanted_none rfl) (fun w=>r_move hE rfl) (fun a hE=>?_)
  refine d_pureg (i:=1) (v:=.string x1) #[true,true,false,false,false,false,false] rfl rfl hT (by kernel_rfl) hE rfl (wanted_none rfl) (fun w=>r_move hE rfl) (fun a hE=>?_)
  refine d_read (i:=3) (v:=x8_3) #[true,true,false,true,false,false,false] rfl rfl hT (by kernel_rfl) hE rfl (wanted_none rfl) hs (fun w s=>r_load hE rfl sc111 s) (fun a hE=>?_)
  refine d_call (i:=2) #[true,true,true,true,false,false,false] rfl rfl rfl hT (by kernel_rfl) rfl hE hR (wanted_none rfl) cl_internal_stringslite_Clone rfl (S_internal_stringslite_Clone x1) (M.unbind H) (fun r h H w' e=>by obtain ⟨_,sA,H⟩:=H; rw [e]; exact sA) (fun x7_4 a w ea hR H hs=>?_)
  obtain ⟨_,sA,H⟩:=H; clear sA
  have hE:=Env.put_some hE rfl ea; clear ea
  obtain ⟨x9_5,qx9_5,H⟩:=H
  refine d_pureg (i:=4) (v:=.agg x9_5) #[true,true,true,true,true,false,false] rfl rfl hT (by kernel_rfl) hE rfl (wanted_none rfl) (fun w=>r_build hE rfl zr249 pl249 qx9_5) (fun a hE=>?_)
  obtain ⟨x10_6,qx10_6,H⟩:=H
  refine d_lasth (i:=5) (v:=.pointer (some x10_6)) #[true,true,true,true,true,true,false] rfl rfl hT (by kernel_rfl) rfl hE hR rfl (wanted_none rfl) (r_box hE rfl qx10_6)  (fun a w hE hR hh=>?_)
  replace H:=M.at hh H; clear hh
  refine d_pureg (i:=6) (v:=.pointer (some x10_6)) #[true,true,true,true,true,true,true] rfl rfl hT (by kernel_rfl) hE rfl (wanted_none rfl) (fun w=>r_assign hE rfl) (fun a hE=>?_)
  refine d_done hT (by kernel_rfl) ?_
  refine hK_2 _ _ ?_
  refine w_ret ?_
  exact hret _ _ _ (some x10_6) _ hE hR (res_run hE rfl (RV.tmp rfl RV.nil)) rfl H

end Gx
namespace Gx
open Go
set_option linter.unusedVariables false
set_option maxRecDepth 100000
def strconv_toError (x0 : ByteArray) (x1 : ByteArray) (x2 : Int) (x3 : Int) (x4 : Value) : M (Value):=do
  let x14_5 ← eqII ty_internal_strconv_Error x4 (Value.iface ty_internal_strconv_Error (.int .i64 2))
  M.ite x14_5 (do
    let x17_7 ← strconv_syntaxError x0 x1
    M.pure (Value.iface ty_p_strconv_NumError (.pointer x17_7))
    ) (do
    let x21_9 ← eqII ty_internal_strconv_Error x4 (Value.iface ty_internal_strconv_Error (.int .i64 1))
    M.ite x21_9 (do
      let x24_11 ← strconv_rangeError x0 x1
      M.pure (Value.iface ty_p_strconv_NumError (.pointer x24_11))
      ) (do
      let x28_13 ← eqII ty_internal_strconv_Error x4 (Value.iface ty_internal_strconv_Error (.int .i64 3))
      M.ite x28_13 (do
        let x32_15 ← strconv_baseError x0 x1 x2
        M.pure (Value.iface ty_p_strconv_NumError (.pointer x32_15))
        ) (do
        let x36_17 ← eqII ty_internal_strconv_Error x4 (Value.iface ty_internal_strconv_Error (.int .i64 4))
        M.ite x36_17 (do
          let x40_19 ← strconv_bitSizeError x0 x1 x3
          M.pure (Value.iface ty_p_strconv_NumError (.pointer x40_19))
          ) (do
          M.pure x4
          )
        )
      )
    )
theorem S_strconv_toError (x0 : ByteArray) (x1 : ByteArray) (x2 : Int) (x3 : Int) (x4 : Value) : Sound Go.Proofs.Tryz.prog 202 #[.string x0,.string x1,.int .i64 x2,.int .i64 x3,x4] (fun (r : Value)=>r) (strconv_toError x0 x1 x2 x3 x4):=by
  refine sound_of [(0,.string x0),(1,.string x1),(2,.int .i64 x2),(3,.int .i64 x3),(4,x4)] Go.Proofs.Tryz.func202 rfl rfl (Nat.le_of_ble_eq_true rfl) (args_of ⟨rfl,rfl,rfl,rfl,rfl,trivial⟩) (fun w0 w Q R a hret hE hR H=>?_)
  unfold strconv_toError at H
  refine w_seq (fun K hK_1=>?_)
  refine t_region ?_
  refine t_val (v:=Value.nilIface) rfl rfl hE rfl (r_assign hE rfl) (fun a hE=>?_)
  refine t_nil ?_
  refine hK_1 _ _ ?_
  refine w_seq (fun K hK_2=>?_)
  refine w_seq (fun K hK_3=>?_)
  refine t_region ?_
  refine t_val (v:=x4) rfl rfl hE rfl (r_move hE rfl) (fun a hE=>?_)
  refine t_nil ?_
  refine hK_3 _ _ ?_
  refine w_block ?_
  refine w_seq (fun K hK_4=>?_)
  refine t_region ?_
  refine t_val (v:=(Value.iface ty_internal_strconv_Error (.int .i64 2))) rfl rfl hE rfl (r_mkIface hE rfl ni225) (fun a hE=>?_)
  obtain ⟨x14_5,qx14_5,H⟩:=H
  refine t_val (v:=.bool x14_5) rfl rfl hE rfl (r_bin hE rfl rfl (g_ii qx14_5) (b_eqlI ifc111 cmt225 qx14_5)) (fun a hE=>?_)
  refine t_val (v:=.bool x14_5) rfl rfl hE rfl (r_assign hE rfl) (fun a hE=>?_)
  refine t_nil ?_
  refine hK_4 _ _ ?_
  refine w_cond x14_5 hE rfl (fun hb=>?_) (fun hb=>?_)
  · replace H:=M.ite_t hb H
    refine w_seq (fun K hK_6=>?_)
    refine t_region ?_
    refine t_val (v:=.string x0) rfl rfl hE rfl (r_move hE rfl) (fun a hE=>?_)
    refine t_val (v:=.string x1) rfl rfl hE rfl (r_move hE rfl) (fun a hE=>?_)
    refine t_call hE hR cl_strconv_syntaxError rfl (S_strconv_syntaxError x0 x1) (M.unbind H) (fun x17_7 a w ea hR H=>?_)
    have hE:=Env.put_some hE rfl ea; clear ea
    refine t_val (v:=(Value.iface ty_p_strconv_NumError (.pointer x17_7))) rfl rfl hE rfl (r_mkIface hE rfl ni228) (fun a hE=>?_)
    refine t_val (v:=(Value.iface ty_p_strconv_NumError (.pointer x17_7))) rfl rfl hE rfl (r_assign hE rfl) (fun a hE=>?_)
    refine t_nil ?_
    refine hK_6 _ _ ?_
    refine w_ret ?_
    exact hret _ _ _ (Value.iface ty_p_strconv_NumError (.pointer x17_7)) _ hE hR (res_run hE rfl (RV.tmp rfl RV.nil)) rfl H
  · replace H:=M.ite_f hb H
    refine w_seq (fun K hK_8=>?_)
    refine t_region ?_
    refine t_val (v:=(Value.iface ty_internal_strconv_Error (.int .i64 1))) rfl rfl hE rfl (r_mkIface hE rfl ni225) (fun a hE=>?_)
    obtain ⟨x21_9,qx21_9,H⟩:=H
    refine t_val (v:=.bool x21_9) rfl rfl hE rfl (r_bin hE rfl rfl (g_ii qx21_9) (b_eqlI ifc111 cmt225 qx21_9)) (fun a hE=>?_)
    refine t_val (v:=.bool x21_9) rfl rfl hE rfl (r_assign hE rfl) (fun a hE=>?_)
    refine t_nil ?_
    refine hK_8 _ _ ?_
    refine w_cond x21_9 hE rfl (fun hb=>?_) (fun hb=>?_)
    · replace H:=M.ite_t hb H
      refine w_seq (fun K hK_10=>?_)
      refine t_region ?_
      refine t_val (v:=.string x0) rfl rfl hE rfl (r_move hE rfl) (fun a hE=>?_)
      refine t_val (v:=.string x1) rfl rfl hE rfl (r_move hE rfl) (fun a hE=>?_)
      refine t_call hE hR cl_strconv_rangeError rfl (S_strconv_rangeError x0 x1) (M.unbind H) (fun x24_11 a w ea hR H=>?_)
      have hE:=Env.put_some hE rfl ea; clear ea
      refine t_val (v:=(Value.iface ty_p_strconv_NumError (.pointer x24_11))) rfl rfl hE rfl (r_mkIface hE rfl ni228) (fun a hE=>?_)
      refine t_val (v:=(Value.iface ty_p_strconv_NumError (.pointer x24_11))) rfl rfl hE rfl (r_assign hE rfl) (fun a hE=>?_)
      refine t_nil ?_
      refine hK_10 _ _ ?_
      refine w_ret ?_
      exact hret _ _ _ (Value.iface ty_p_strconv_NumError (.pointer x24_11)) _ hE hR (res_run hE rfl (RV.tmp rfl RV.nil)) rfl H
    · replace H:=M.ite_f hb H
      refine w_seq (fun K hK_12=>?_)
      refine t_region ?_
      refine t_val (v:=(Value.iface ty_internal_strconv_Error (.int .i64 3))) rfl rfl hE rfl (r_mkIface hE rfl ni225) (fun a hE=>?_)
      obtain ⟨x28_13,qx28_13,H⟩:=H
      refine t_val (v:=.bool x28_13) rfl rfl hE rfl (r_bin hE rfl rfl (g_ii qx28_13) (b_eqlI ifc111 cmt225 qx28_13)) (fun a hE=>?_)
      refine t_val (v:=.bool x28_13) rfl rfl hE rfl (r_assign hE rfl) (fun a hE=>?_)
      refine t_nil ?_
      refine hK_12 _ _ ?_
      refine w_cond x28_13 hE rfl (fun hb=>?_) (fun hb=>?_)
      · replace H:=M.ite_t hb H
        refine w_seq (fun K hK_14=>?_)
        refine t_region ?_
        refine t_val (v:=.string x0) rfl rfl hE rfl (r_move hE rfl) (fun a hE=>?_)
        refine t_val (v:=.string x1) rfl rfl hE rfl (r_move hE rfl) (fun a hE=>?_)
        refine t_val (v:=.int .i64 x2) rfl rfl hE rfl (r_move hE rfl) (fun a hE=>?_)
        refine t_call hE hR cl_strconv_baseError rfl (S_strconv_baseError x0 x1 x2) (M.unbind H) (fun x32_15 a w ea hR H=>?_)
        have hE:=Env.put_some hE rfl ea; clear ea
        refine t_val (v:=(Value.iface ty_p_strconv_NumError (.pointer x32_15))) rfl rfl hE rfl (r_mkIface hE rfl ni228) (fun a hE=>?_)
        refine t_val (v:=(Value.iface ty_p_strconv_NumError (.pointer x32_15))) rfl rfl hE rfl (r_assign hE rfl) (fun a hE=>?_)
        refine t_nil ?_
        refine hK_14 _ _ ?_
        refine w_ret ?_
        exact hret _ _ _ (Value.iface ty_p_strconv_NumError (.pointer x32_15)) _ hE hR (res_run hE rfl (RV.tmp rfl RV.nil)) rfl H
      · replace H:=M.ite_f hb H
        refine w_seq (fun K hK_16=>?_)
        refine t_region ?_
        refine t_val (v:=(Value.iface ty_internal_strconv_Error (.int .i64 4))) rfl rfl hE rfl (r_mkIface hE rfl ni225) (fun a hE=>?_)
        obtain ⟨x36_17,qx36_17,H⟩:=H
        refine t_val (v:=.bool x36_17) rfl rfl hE rfl (r_bin hE rfl rfl (g_ii qx36_17) (b_eqlI ifc111 cmt225 qx36_17)) (fun a hE=>?_)
        refine t_val (v:=.bool x36_17) rfl rfl hE rfl (r_assign hE rfl) (fun a hE=>?_)
        refine t_nil ?_
        refine hK_16 _ _ ?_
        refine w_cond x36_17 hE rfl (fun hb=>?_) (fun hb=>?_)
        · replace H:=M.ite_t hb H
          refine w_seq (fun K hK_18=>?_)
          refine t_region ?_
          refine t_val (v:=.string x0) rfl rfl hE rfl (r_move hE rfl) (fun a hE=>?_)
          refine t_val (v:=.string x1) rfl rfl hE rfl (r_move hE rfl) (fun a hE=>?_)
          refine t_val (v:=.int .i64 x3) rfl rfl hE rfl (r_move hE rfl) (fun a hE=>?_)
          refine t_call hE hR cl_strconv_bitSizeError rfl (S_strconv_bitSizeError x0 x1 x3) (M.unbind H) (fun x40_19 a w ea hR H=>?_)
          have hE:=Env.put_some hE rfl ea; clear ea
          refine t_val (v:=(Value.iface ty_p_strconv_NumError (.pointer x40_19))) rfl rfl hE rfl (r_mkIface hE rfl ni228) (fun a hE=>?_)
          refine t_val (v:=(Value.iface ty_p_strconv_NumError (.pointer x40_19))) rfl rfl hE rfl (r_assign hE rfl) (fun a hE=>?_)
          refine t_nil ?_
          refine hK_18 _ _ ?_
          refine w_ret ?_
          exact hret _ _ _ (Value.iface ty_p_strconv_NumError (.pointer x40_19)) _ hE hR (res_run hE rfl (RV.tmp rfl RV.nil)) rfl H
        · replace H:=M.ite_f hb H
          refine w_skip ?_
          refine hK_2 _ _ ?_
          refine w_seq (fun K hK_20=>?_)
          refine t_region ?_
          refine t_val (v:=x4) rfl rfl hE rfl (r_move hE rfl) (fun a hE=>?_)
          refine t_val (v:=x4) rfl rfl hE rfl (r_assign hE rfl) (fun a hE=>?_)
          refine t_nil ?_
          refine hK_20 _ _ ?_
          refine w_ret ?_
          exact hret _ _ _ x4 _ hE hR (res_run hE rfl (RV.tmp rfl RV.nil)) rfl H

def strconv_ParseInt (x0 : ByteArray) (x1 : Int) (x2 : Int) : M (Int × Value):=do
  let x13_3 ← internal_strconv_ParseInt x0 x1 x2
  let x17_6 ← isNI x13_3.2
  M.ite (!x17_6) (do
    let x23_8 ← strconv_toError (⟨#[80,97,114,115,101,73,110,116]⟩ : ByteArray) x0 x1 x2 x13_3.2
    M.pure (x13_3.1,x23_8)
    ) (do
    M.pure (x13_3.1,Value.nilIface)
    )
theorem S_strconv_ParseInt (x0 : ByteArray) (x1 : Int) (x2 : Int) : Sound Go.Proofs.Tryz.prog 161 #[.string x0,.int .i64 x1,.int .i64 x2] (fun (r : Int × Value)=>.tuple #[.int .i64 r.1,r.2]) (strconv_ParseInt x0 x1 x2):=by
  refine sound_of [(0,.string x0),(1,.int .i64 x1),(2,.int .i64 x2)] Go.Proofs.Tryz.func161 rfl rfl (Nat.le_of_ble_eq_true rfl) (args_of ⟨rfl,rfl,rfl,trivial⟩) (fun w0 w Q R a hret hE hR H=>?_)
  unfold strconv_ParseInt at H
  refine w_seq (fun K hK_1=>?_)
  refine t_region ?_
  refine t_val (v:=.int .i64 0) rfl rfl hE rfl (r_assign hE rfl) (fun a hE=>?_)
  refine t_val (v:=Value.nilIface) rfl rfl hE rfl (r_assign hE rfl) (fun a hE=>?_)
  refine t_nil ?_
  refine hK_1 _ _ ?_
  refine w_seq (fun K hK_2=>?_)
  refine t_region ?_
  refine t_val (v:=.string x0) rfl rfl hE rfl (r_move hE rfl) (fun a hE=>?_)
  refine t_val (v:=.int .i64 x1) rfl rfl hE rfl (r_move hE rfl) (fun a hE=>?_)
  refine t_val (v:=.int .i64 x2) rfl rfl hE rfl (r_move hE rfl) (fun a hE=>?_)
  refine t_call hE hR cl_internal_strconv_ParseInt rfl (S_internal_strconv_ParseInt x0 x1 x2) (M.unbind H) (fun x13_3 a w ea hR H=>?_)
  have hE:=Env.put_some hE rfl ea; clear ea
  refine t_val (v:=.tuple #[.int .i64 x13_3.1,x13_3.2]) rfl rfl hE rfl (r_move hE rfl) (fun a hE=>?_)
  refine t_val (v:=.int .i64 x13_3.1) rfl rfl hE rfl (r_extract hE rfl rfl) (fun a hE=>?_)
  refine t_val (v:=x13_3.2) rfl rfl hE rfl (r_extract hE rfl rfl) (fun a hE=>?_)
  refine t_val (v:=.int .i64 x13_3.1) rfl rfl hE rfl (r_assign hE rfl) (fun a hE=>?_)
  refine t_val (v:=x13_3.2) rfl rfl hE rfl (r_assign hE rfl) (fun a hE=>?_)
  refine t_nil ?_
  refine hK_2 _ _ ?_
  refine w_seq (fun K hK_4=>?_)
  refine w_seq (fun K hK_5=>?_)
  refine t_region ?_
  refine t_val (v:=x13_3.2) rfl rfl hE rfl (r_move hE rfl) (fun a hE=>?_)
  obtain ⟨x17_6,qx17_6,H⟩:=H
  refine t_val (v:=.bool (!x17_6)) rfl rfl hE rfl (r_bin hE rfl rfl (g_ni qx17_6) (b_neqN ifc111 qx17_6)) (fun a hE=>?_)
  refine t_nil ?_
  refine hK_5 _ _ ?_
  refine w_cond (!x17_6) hE rfl (fun hb=>?_) (fun hb=>?_)
  · replace H:=M.ite_t hb H
    refine w_seq (fun K hK_7=>?_)
    refine t_region ?_
    refine t_val (v:=.int .i64 x13_3.1) rfl rfl hE rfl (r_move hE rfl) (fun a hE=>?_)
    refine t_val (v:=.string x0) rfl rfl hE rfl (r_move hE rfl) (fun a hE=>?_)
    refine t_val (v:=.int .i64 x1) rfl rfl hE rfl (r_move hE rfl) (fun a hE=>?_)
    refine t_val (v:=.int .i64 x2) rfl rfl hE rfl (r_move hE rfl) (fun a hE=>?_)
    refine t_val (v:=x13_3.2) rfl rfl hE rfl (r_move hE rfl) (fun a hE=>?_)
    refine t_call hE hR cl_strconv_toError rfl (S_strconv_toError (⟨#[80,97,114,115,101,73,110,116]⟩ : ByteArray) x0 x1 x2 x13_3.2) (M.unbind H) (fun x23_8 a w ea hR H=>?_)
    have hE:=Env.put_some hE rfl ea; clear ea
    refine t_val (v:=.int .i64 x13_3.1) rfl rfl hE rfl (r_assign hE rfl) (fun a hE=>?_)
    refine t_val (v:=x23_8) rfl rfl hE rfl (r_assign hE rfl) (fun a hE=>?_)
    refine t_nil ?_
    refine hK_7 _ _ ?_
    refine w_ret ?_
    exact hret _ _ _ (x13_3.1,x23_8) _ hE hR (res_run hE rfl (RV.tmp rfl (RV.tmp rfl RV.nil))) rfl H
  · replace H:=M.ite_f hb H
    refine w_skip ?_
    refine hK_4 _ _ ?_
    refine w_seq (fun K hK_9=>?_)
    refine t_region ?_
    refine t_val (v:=.int .i64 x13_3.1) rfl rfl hE rfl (r_move hE rfl) (fun a hE=>?_)
    refine t_val (v:=.int .i64 x13_3.1) rfl rfl hE rfl (r_assign hE rfl) (fun a hE=>?_)
    refine t_val (v:=Value.nilIface) rfl rfl hE rfl (r_assign hE rfl) (fun a hE=>?_)
    refine t_nil ?_
    refine hK_9 _ _ ?_
    refine w_ret ?_
    exact hret _ _ _ (x13_3.1,Value.nilIface) _ hE hR (res_run hE rfl (RV.tmp rfl (RV.tmp rfl RV.nil))) rfl H

def num_Parse_j1 (c0_4 : ByteArray) (x4_3 : ByteArray) : M (Int × Int):=do
  let x23_7 ← M.ite (sEq x4_3 ByteArray.empty) (do
    M.pure true
    ) (do
    let x21_8 ← s2b ty_uint8 x4_3
    let x22_9 ← slices_ContainsFunc_slbyte_byte x21_8 (Value.func (.func fn_num_Parse_1) #[] #[])
    M.pure x22_9
    )
  let x32_10 ← M.ite x23_7 (do
    M.pure true
    ) (do
    let x26_11 ← ixS x4_3 0
    let x31_12 ← M.ite (x26_11 == 48) (do
      M.pure (!(sEq c0_4 (⟨#[48]⟩ : ByteArray)))
      ) (do
      M.pure false
      )
    M.pure x31_12
    )
  M.ite x32_10 (do
    M.pure (0,10)
    ) (do
    let x35_15 ← strconv_ParseInt c0_4 10 64
    let x40_17 ← isNI x35_15.2
    let x41_18 ← num_told x35_15.1 x40_17
    M.pure (x41_18.1,x41_18.2)
    )
def num_Parse (x0 : ByteArray) : M (Int × Int):=do
  let x14_20 ← M.ite (!(sEq x0 ByteArray.empty)) (do
    let x12_21 ← ixS x0 0
    M.pure (x12_21 == 45)
    ) (do
    M.pure false
    )
  M.ite x14_20 (do
    let x16_22 ← slS x0 1 x0.size
    num_Parse_j1 x0 x16_22
    ) (do
    num_Parse_j1 x0 x0
    )
theorem S_num_Parse (x0 : ByteArray) : Sound Go.Proofs.Tryz.prog 114 #[.string x0] (fun (r : Int × Int)=>.tuple #[.int .i64 r.1,.int .i64 r.2]) (num_Parse x0):=by
  refine sound_of [(0,.string x0)] Go.Proofs.Tryz.func114 rfl rfl (Nat.le_of_ble_eq_true rfl) (args_of ⟨rfl,trivial⟩) (fun w0 w Q R a hret hE hR H=>?_)
  unfold num_Parse at H
  refine w_seq (fun K hK_1=>?_)
  refine t_region ?_
  refine t_val (v:=.int .i64 0) rfl rfl hE rfl (r_assign hE rfl) (fun a hE=>?_)
  refine t_val (v:=.int .i64 0) rfl rfl hE rfl (r_assign hE rfl) (fun a hE=>?_)
  refine t_nil ?_
  refine hK_1 _ _ ?_
  refine w_seq (fun K hK_2=>?_)
  refine t_region ?_
  refine t_val (v:=.string x0) rfl rfl hE rfl (r_move hE rfl) (fun a hE=>?_)
  refine t_val (v:=.string x0) rfl rfl hE rfl (r_assign hE rfl) (fun a hE=>?_)
  refine t_nil ?_
  refine hK_2 _ _ ?_
  refine w_seq_join (fun a w=>∃ (x4_3 : ByteArray),Env (⟨44,[]⟩ : Frm) a [(0,.string x0),(4,.string x4_3)] ∧ Rest w0 w ∧ (num_Parse_j1 x0 x4_3).wp w.heap Q) ?_ ?_
  · rintro a w ⟨x4_3,hE,hR,H⟩
    unfold num_Parse_j1 at H
    refine w_seq (fun K hK_5=>?_)
    refine w_seq (fun K hK_6=>?_)
    refine t_region ?_
    refine t_val (v:=.string x4_3) rfl rfl hE rfl (r_move hE rfl) (fun a hE=>?_)
    refine t_val (v:=.bool (sEq x4_3 ByteArray.empty)) rfl rfl hE rfl (r_bin hE rfl rfl g_str b_eqlS) (fun a hE=>?_)
    refine t_val (v:=.bool (sEq x4_3 ByteArray.empty)) rfl rfl hE rfl (r_move hE rfl) (fun a hE=>?_)
    refine t_grp (n:=(⟨44,[]⟩ : Frm)) (w0:=w0) 4 (fun x23_7 : Bool=>[(0,.string x0),(4,.string x4_3),(23,.bool x23_7)]) (M.unbind H) (fun Kr hKr H=>?_) ?_
    · rcases bool_em (sEq x4_3 ByteArray.empty) with hb | hb
      · replace H:=M.ite_t hb H
        have hE:=hE.reb 19 (sEq x4_3 ByteArray.empty) true hb rfl
        refine t_off rfl hE rfl rfl rfl (fun a ea=>?_)
        have hE:=Env.put_some hE rfl ea; clear ea
        refine t_off rfl hE rfl rfl rfl (fun a ea=>?_)
        have hE:=Env.put_some hE rfl ea; clear ea
        refine t_off rfl hE rfl rfl rfl (fun a ea=>?_)
        have hE:=Env.put_some hE rfl ea; clear ea
        refine t_val rfl rfl hE rfl (r_pick_t hE rfl rfl) (fun a hE=>?_)
        refine t_nil ?_
        exact hKr _ _ _ (hE.cut (.cons rfl (.cons rfl (.cons rfl Subs.nil)))) hR H
      · replace H:=M.ite_f hb H
        have hE:=hE.reb 19 (sEq x4_3 ByteArray.empty) false hb rfl
        refine t_on rfl hE rfl rfl rfl ?_
        refine t_val (v:=.string x4_3) rfl rfl hE rfl (r_move hE rfl) (fun a hE=>?_)
        refine t_on rfl hE rfl rfl rfl ?_
        refine t_ex (fun x21_8=>(x21_8 : Sl).v) rfl rfl hR (M.unbind H) (fun Q H=>s2b_run hE rfl un9 un35 un5 H) (fun x21_8 a w ea hR H=>?_)
        have hE:=Env.put_some hE rfl ea; clear ea
        refine t_on rfl hE rfl rfl rfl ?_
        refine t_call hE hR cl_slices_ContainsFunc_slbyte_byte rfl (S_slices_ContainsFunc_slbyte_byte x21_8 (Value.func (.func fn_num_Parse_1) #[] #[])) (M.unbind H) (fun x22_9 a w ea hR H=>?_)
        have hE:=Env.put_some hE rfl ea; clear ea
        refine t_val rfl rfl hE rfl (r_pick_f hE rfl rfl) (fun a hE=>?_)
        refine t_nil ?_
        exact hKr _ _ _ (hE.cut (.cons rfl (.cons rfl (.cons rfl Subs.nil)))) hR H
    · intro x23_7 a w hE hR H
      refine t_val (v:=.bool x23_7) rfl rfl hE rfl (r_move hE rfl) (fun a hE=>?_)
      refine t_grp (n:=(⟨44,[]⟩ : Frm)) (w0:=w0) 8 (fun x32_10 : Bool=>[(0,.string x0),(32,.bool x32_10)]) (M.unbind H) (fun Kr hKr H=>?_) ?_
      · rcases bool_em x23_7 with hb | hb
        · replace H:=M.ite_t hb H
          have hE:=hE.reb 24 x23_7 true hb rfl
          refine t_off rfl hE rfl rfl rfl (fun a ea=>?_)
          have hE:=Env.put_some hE rfl ea; clear ea
          refine t_off rfl hE rfl rfl rfl (fun a ea=>?_)
          have hE:=Env.put_some hE rfl ea; clear ea
          refine t_off rfl hE rfl rfl rfl (fun a ea=>?_)
          have hE:=Env.put_some hE rfl ea; clear ea
          refine t_off rfl hE rfl rfl rfl (fun a ea=>?_)
          have hE:=Env.put_some hE rfl ea; clear ea
          refine t_off' rfl hE rfl rfl (fun b hb=>by cases hb) (fun a ea=>?_)
          have hE:=Env.put_some hE rfl ea; clear ea
          refine t_off' rfl hE rfl rfl (fun b hb=>by cases hb) (fun a ea=>?_)
          have hE:=Env.put_some hE rfl ea; clear ea
          refine t_off rfl hE rfl rfl rfl (fun a ea=>?_)
          have hE:=Env.put_some hE rfl ea; clear ea
          refine t_val rfl rfl hE rfl (r_pick_t hE rfl rfl) (fun a hE=>?_)
          refine t_nil ?_
          exact hKr _ _ _ (hE.cut (.cons rfl (.cons rfl Subs.nil))) hR H
        · replace H:=M.ite_f hb H
          have hE:=hE.reb 24 x23_7 false hb rfl
          refine t_on rfl hE rfl rfl rfl ?_
          refine t_val (v:=.string x4_3) rfl rfl hE rfl (r_move hE rfl) (fun a hE=>?_)
          refine t_on rfl hE rfl rfl rfl ?_
          obtain ⟨x26_11,qx26_11,H⟩:=H
          refine t_val (v:=.int .u8 x26_11) rfl rfl hE rfl (r_indexS hE rfl rfl un9 qx26_11) (fun a hE=>?_)
          refine t_on rfl hE rfl rfl rfl ?_
          refine t_val (v:=.bool (x26_11 == 48)) rfl rfl hE rfl (r_bin hE rfl rfl g_int b_eql) (fun a hE=>?_)
          refine t_on rfl hE rfl rfl rfl ?_
          refine t_val (v:=.bool (x26_11 == 48)) rfl rfl hE rfl (r_move hE rfl) (fun a hE=>?_)
          refine t_grp (n:=(⟨44,[]⟩ : Frm)) (w0:=w0) 3 (fun x31_12 : Bool=>[(0,.string x0),(24,.bool false),(31,.bool x31_12)]) (M.unbind H) (fun Kr hKr H=>?_) ?_
          · rcases bool_em (x26_11 == 48) with hb | hb
            · replace H:=M.ite_t hb H
              have hE:=hE.reb 28 (x26_11 == 48) true hb rfl
              refine t_on rfl hE rfl rfl rfl ?_
              refine t_val (v:=.string x0) rfl rfl hE rfl (r_move hE rfl) (fun a hE=>?_)
              refine t_on rfl hE rfl rfl rfl ?_
              refine t_val (v:=.bool (!(sEq x0 (⟨#[48]⟩ : ByteArray)))) rfl rfl hE rfl (r_bin hE rfl rfl g_str b_neqS) (fun a hE=>?_)
              refine t_on rfl hE rfl rfl rfl ?_
              refine t_val rfl rfl hE rfl (r_pick_t hE rfl rfl) (fun a hE=>?_)
              refine t_nil ?_
              exact hKr _ _ _ (hE.cut (.cons rfl (.cons rfl (.cons rfl Subs.nil)))) hR H
            · replace H:=M.ite_f hb H
              have hE:=hE.reb 28 (x26_11 == 48) false hb rfl
              refine t_off rfl hE rfl rfl rfl (fun a ea=>?_)
              have hE:=Env.put_some hE rfl ea; clear ea
              refine t_off rfl hE rfl rfl rfl (fun a ea=>?_)
              have hE:=Env.put_some hE rfl ea; clear ea
              refine t_on rfl hE rfl rfl rfl ?_
              refine t_val rfl rfl hE rfl (r_pick_f hE rfl rfl) (fun a hE=>?_)
              refine t_nil ?_
              exact hKr _ _ _ (hE.cut (.cons rfl (.cons rfl (.cons rfl Subs.nil)))) hR H
          · intro x31_12 a w hE hR H
            refine t_val rfl rfl hE rfl (r_pick_f hE rfl rfl) (fun a hE=>?_)
            refine t_nil ?_
            exact hKr _ _ _ (hE.cut (.cons rfl (.cons rfl Subs.nil))) hR H
      · intro x32_10 a w hE hR H
        refine t_nil ?_
        refine hK_6 _ _ ?_
        refine w_cond x32_10 hE rfl (fun hb=>?_) (fun hb=>?_)
        · replace H:=M.ite_t hb H
          refine w_seq (fun K hK_13=>?_)
          refine t_region ?_
          refine t_val (v:=.int .i64 0) rfl rfl hE rfl (r_assign hE rfl) (fun a hE=>?_)
          refine t_val (v:=.int .i64 10) rfl rfl hE rfl (r_assign hE rfl) (fun a hE=>?_)
          refine t_nil ?_
          refine hK_13 _ _ ?_
          refine w_ret ?_
          exact hret _ _ _ (0,10) _ hE hR (res_run hE rfl (RV.tmp rfl (RV.tmp rfl RV.nil))) rfl H
        · replace H:=M.ite_f hb H
          refine w_skip ?_
          refine hK_5 _ _ ?_
          refine w_seq (fun K hK_14=>?_)
          refine t_region ?_
          refine t_val (v:=.string x0) rfl rfl hE rfl (r_move hE rfl) (fun a hE=>?_)
          refine t_call hE hR cl_strconv_ParseInt rfl (S_strconv_ParseInt x0 10 64) (M.unbind H) (fun x35_15 a w ea hR H=>?_)
          have hE:=Env.put_some hE rfl ea; clear ea
          refine t_val (v:=.tuple #[.int .i64 x35_15.1,x35_15.2]) rfl rfl hE rfl (r_move hE rfl) (fun a hE=>?_)
          refine t_val (v:=.int .i64 x35_15.1) rfl rfl hE rfl (r_extract hE rfl rfl) (fun a hE=>?_)
          refine t_val (v:=x35_15.2) rfl rfl hE rfl (r_extract hE rfl rfl) (fun a hE=>?_)
          refine t_val (v:=.int .i64 x35_15.1) rfl rfl hE rfl (r_assign hE rfl) (fun a hE=>?_)
          refine t_val (v:=x35_15.2) rfl rfl hE rfl (r_assign hE rfl) (fun a hE=>?_)
          refine t_nil ?_
          refine hK_14 _ _ ?_
          refine w_seq (fun K hK_16=>?_)
          refine t_region ?_
          refine t_val (v:=.int .i64 x35_15.1) rfl rfl hE rfl (r_move hE rfl) (fun a hE=>?_)
          refine t_val (v:=x35_15.2) rfl rfl hE rfl (r_move hE rfl) (fun a hE=>?_)
          obtain ⟨x40_17,qx40_17,H⟩:=H
          refine t_val (v:=.bool x40_17) rfl rfl hE rfl (r_bin hE rfl rfl (g_ni qx40_17) (b_eqlN ifc111 qx40_17)) (fun a hE=>?_)
          refine t_call hE hR cl_num_told rfl (S_num_told x35_15.1 x40_17) (M.unbind H) (fun x41_18 a w ea hR H=>?_)
          have hE:=Env.put_some hE rfl ea; clear ea
          refine t_val (v:=.int .i64 x41_18.1) rfl rfl hE rfl (r_extract hE rfl rfl) (fun a hE=>?_)
          refine t_val (v:=.int .i64 x41_18.2) rfl rfl hE rfl (r_extract hE rfl rfl) (fun a hE=>?_)
          refine t_val (v:=.int .i64 x41_18.1) rfl rfl hE rfl (r_assign hE rfl) (fun a hE=>?_)
          refine t_val (v:=.int .i64 x41_18.2) rfl rfl hE rfl (r_assign hE rfl) (fun a hE=>?_)
          refine t_nil ?_
          refine hK_16 _ _ ?_
          refine w_ret ?_
          exact hret _ _ _ (x41_18.1,x41_18.2) _ hE hR (res_run hE rfl (RV.tmp rfl (RV.tmp rfl RV.nil))) rfl H
  · skip
    refine w_seq (fun K hK_19=>?_)
    refine t_region ?_
    refine t_val (v:=.string x0) rfl rfl hE rfl (r_move hE rfl) (fun a hE=>?_)
    refine t_val (v:=.bool (!(sEq x0 ByteArray.empty))) rfl rfl hE rfl (r_bin hE rfl rfl g_str b_neqS) (fun a hE=>?_)
    refine t_val (v:=.bool (!(sEq x0 ByteArray.empty))) rfl rfl hE rfl (r_move hE rfl) (fun a hE=>?_)
    refine t_grp (n:=(⟨44,[]⟩ : Frm)) (w0:=w0) 4 (fun x14_20 : Bool=>[(0,.string x0),(4,.string x0),(14,.bool x14_20)]) (M.unbind H) (fun Kr hKr H=>?_) ?_
    · rcases bool_em (!(sEq x0 ByteArray.empty)) with hb | hb
      · replace H:=M.ite_t hb H
        have hE:=hE.reb 10 (!(sEq x0 ByteArray.empty)) true hb rfl
        refine t_on rfl hE rfl rfl rfl ?_
        refine t_val (v:=.string x0) rfl rfl hE rfl (r_move hE rfl) (fun a hE=>?_)
        refine t_on rfl hE rfl rfl rfl ?_
        obtain ⟨x12_21,qx12_21,H⟩:=H
        refine t_val (v:=.int .u8 x12_21) rfl rfl hE rfl (r_indexS hE rfl rfl un9 qx12_21) (fun a hE=>?_)
        refine t_on rfl hE rfl rfl rfl ?_
        refine t_val (v:=.bool (x12_21 == 45)) rfl rfl hE rfl (r_bin hE rfl rfl g_int b_eql) (fun a hE=>?_)
        refine t_val rfl rfl hE rfl (r_pick_t hE rfl rfl) (fun a hE=>?_)
        refine t_nil ?_
        exact hKr _ _ _ (hE.cut (.cons rfl (.cons rfl (.cons rfl Subs.nil)))) hR H
      · replace H:=M.ite_f hb H
        have hE:=hE.reb 10 (!(sEq x0 ByteArray.empty)) false hb rfl
        refine t_off rfl hE rfl rfl rfl (fun a ea=>?_)
        have hE:=Env.put_some hE rfl ea; clear ea
        refine t_off rfl hE rfl rfl rfl (fun a ea=>?_)
        have hE:=Env.put_some hE rfl ea; clear ea
        refine t_off rfl hE rfl rfl rfl (fun a ea=>?_)
        have hE:=Env.put_some hE rfl ea; clear ea
        refine t_val rfl rfl hE rfl (r_pick_f hE rfl rfl) (fun a hE=>?_)
        refine t_nil ?_
        exact hKr _ _ _ (hE.cut (.cons rfl (.cons rfl (.cons rfl Subs.nil)))) hR H
    · intro x14_20 a w hE hR H
      refine t_nil ?_
      refine hK_19 _ _ ?_
      refine w_cond x14_20 hE rfl (fun hb=>?_) (fun hb=>?_)
      · replace H:=M.ite_t hb H
        refine t_region ?_
        refine t_val (v:=.string x0) rfl rfl hE rfl (r_move hE rfl) (fun a hE=>?_)
        obtain ⟨x16_22,qx16_22,H⟩:=H
        refine t_val (v:=.string x16_22) rfl rfl hE rfl (r_sliceS_l hE rfl rfl un9 qx16_22) (fun a hE=>?_)
        refine t_val (v:=.string x16_22) rfl rfl hE rfl (r_assign hE rfl) (fun a hE=>?_)
        refine t_nil ?_
        exact ⟨x16_22,hE.cut (.cons rfl (.cons rfl Subs.nil)),hR,H⟩
      · replace H:=M.ite_f hb H
        refine w_skip ?_
        exact ⟨x0,hE.cut (.cons rfl (.cons rfl Subs.nil)),hR,H⟩

end Gx
namespace Gx
open Go
set_option linter.unusedVariables false
set_option maxRecDepth 100000
end Gx
namespace Gx
open Go
set_option linter.unusedVariables false
set_option maxRecDepth 100000
end Gx
namespace Gx
open Go
set_option linter.unusedVariables false
set_option maxRecDepth 100000
def value_may_1 (x0 : Array Value) (x1 : Addr) : M (Bool):=do
  let x2_2 ← mkB ty_api_Value x0
  let x4_4 ← ldG 4 x2_2
  let x5_5 ← ldI .i64 x1
  let x7_6 ← value_may x4_4 (IntKind.wrap .i64 (x5_5 + 1))
  M.pure (!x7_6)
theorem S_value_may_1 (x0 : Array Value) (x1 : Addr) : Sound Go.Proofs.Tryz.prog 129 #[.agg x0,.pointer (some x1)] (fun (r : Bool)=>.bool r) (value_may_1 x0 x1):=by
  refine sound_of [(0,.agg x0),(1,.pointer (some x1))] Go.Proofs.Tryz.func129 rfl rfl (Nat.le_of_ble_eq_true rfl) (args_of ⟨rfl,rfl,trivial⟩) (fun w0 w Q R a hret hE hR H=>?_)
  unfold value_may_1 at H
  refine w_seq (fun K hK_1=>?_)
  refine t_region ?_
  obtain ⟨x2_2,qx2_2,H⟩:=H
  refine t_valh (v:=.pointer (some x2_2)) rfl rfl hE rfl hR (r_box hE rfl qx2_2) (fun a w hE hR hh=>?_)
  replace H:=M.at hh H; clear hh
  refine t_val (v:=.bool false) rfl rfl hE rfl (r_assign hE rfl) (fun a hE=>?_)
  refine t_nil ?_
  refine hK_1 _ _ ?_
  refine w_seq (fun K hK_3=>?_)
  refine t_region ?_
  obtain ⟨x4_4,qx4_4,H⟩:=H
  refine t_val (v:=.agg x4_4) rfl rfl hE rfl (r_loadG hE rfl ag24 qx4_4) (fun a hE=>?_)
  obtain ⟨x5_5,qx5_5,H⟩:=H
  refine t_val (v:=.int .i64 x5_5) rfl rfl hE rfl (r_load hE rfl sc3 qx5_5) (fun a hE=>?_)
  refine t_val (v:=.int .i64 (IntKind.wrap .i64 (x5_5 + 1))) rfl rfl hE rfl (r_bin hE rfl rfl g_int b_add) (fun a hE=>?_)
  refine t_call hE hR cl_value_may rfl (S_value_may x4_4 (IntKind.wrap .i64 (x5_5 + 1))) (M.unbind H) (fun x7_6 a w ea hR H=>?_)
  have hE:=Env.put_some hE rfl ea; clear ea
  refine t_val (v:=.bool (!x7_6)) rfl rfl hE rfl (r_un hE rfl u_not) (fun a hE=>?_)
  refine t_val (v:=.bool (!x7_6)) rfl rfl hE rfl (r_assign hE rfl) (fun a hE=>?_)
  refine t_nil ?_
  refine hK_3 _ _ ?_
  refine w_ret ?_
  exact hret _ _ _ (!x7_6) _ hE hR (res_run hE rfl (RV.tmp rfl RV.nil)) rfl H

def internal_strconv_small (x0 : Int) : M (ByteArray):=do
  M.ite (decide (x0 < 10)) (do
    let x8_5 ← slS (⟨#[48,49,50,51,52,53,54,55,56,57,97,98,99,100,101,102,103,104,105,106,107,108,109,110,111,112,113,114,115,116,117,118,119,120,121,122]⟩ : ByteArray) x0 (IntKind.wrap .i64 (x0 + 1))
    M.pure x8_5
    ) (do
    let x14_7 ← slS (⟨#[48,48,48,49,48,50,48,51,48,52,48,53,48,54,48,55,48,56,48,57,49,48,49,49,49,50,49,51,49,52,49,53,49,54,49,55,49,56,49,57,50,48,50,49,50,50,50,51,50,52,50,53,50,54,50,55,50,56,50,57,51,48,51,49,51,50,51,51,51,52,51,53,51,54,51,55,51,56,51,57,52,48,52,49,52,50,52,51,52,52,52,53,52,54,52,55,52,56,52,57,53,48,53,49,53,50,53,51,53,52,53,53,53,54,53,55,53,56,53,57,54,48,54,49,54,50,54,51,54,52,54,53,54,54,54,55,54,56,54,57,55,48,55,49,55,50,55,51,55,52,55,53,55,54,55,55,55,56,55,57,56,48,56,49,56,50,56,51,56,52,56,53,56,54,56,55,56,56,56,57,57,48,57,49,57,50,57,51,57,52,57,53,57,54,57,55,57,56,57,57]⟩ : ByteArray) (IntKind.wrap .i64 (x0 * 2)) (IntKind.wrap .i64 ((IntKind.wrap .i64 (x0 * 2)) + 2))
    M.pure x14_7
    )
theorem S_internal_strconv_small (x0 : Int) : Sound Go.Proofs.Tryz.prog 227 #[.int .i64 x0] (fun (r : ByteArray)=>.string r) (internal_strconv_small x0):=by
  refine sound_of [(0,.int .i64 x0)] Go.Proofs.Tryz.func227 rfl rfl (Nat.le_of_ble_eq_true rfl) (args_of ⟨rfl,trivial⟩) (fun w0 w Q R a hret hE hR H=>?_)
  unfold internal_strconv_small at H
  refine w_seq (fun K hK_1=>?_)
  refine t_region ?_
  refine t_val (v:=.string ByteArray.empty) rfl rfl hE rfl (r_assign hE rfl) (fun a hE=>?_)
  refine t_nil ?_
  refine hK_1 _ _ ?_
  refine w_seq (fun K hK_2=>?_)
  refine w_seq (fun K hK_3=>?_)
  refine t_region ?_
  refine t_val (v:=.int .i64 x0) rfl rfl hE rfl (r_move hE rfl) (fun a hE=>?_)
  refine t_val (v:=.bool (decide (x0 < 10))) rfl rfl hE rfl (r_bin hE rfl rfl g_int b_lss) (fun a hE=>?_)
  refine t_nil ?_
  refine hK_3 _ _ ?_
  refine w_cond (decide (x0 < 10)) hE rfl (fun hb=>?_) (fun hb=>?_)
  · replace H:=M.ite_t hb H
    refine w_seq (fun K hK_4=>?_)
    refine t_region ?_
    refine t_val (v:=.int .i64 x0) rfl rfl hE rfl (r_move hE rfl) (fun a hE=>?_)
    refine t_val (v:=.int .i64 x0) rfl rfl hE rfl (r_move hE rfl) (fun a hE=>?_)
    refine t_val (v:=.int .i64 (IntKind.wrap .i64 (x0 + 1))) rfl rfl hE rfl (r_bin hE rfl rfl g_int b_add) (fun a hE=>?_)
    obtain ⟨x8_5,qx8_5,H⟩:=H
    refine t_val (v:=.string x8_5) rfl rfl hE rfl (r_sliceS_lh hE rfl rfl rfl un9 qx8_5) (fun a hE=>?_)
    refine t_val (v:=.string x8_5) rfl rfl hE rfl (r_assign hE rfl) (fun a hE=>?_)
    refine t_nil ?_
    refine hK_4 _ _ ?_
    refine w_ret ?_
    exact hret _ _ _ x8_5 _ hE hR (res_run hE rfl (RV.tmp rfl RV.nil)) rfl H
  · replace H:=M.ite_f hb H
    refine w_skip ?_
    refine hK_2 _ _ ?_
    refine w_seq (fun K hK_6=>?_)
    refine t_region ?_
    refine t_val (v:=.int .i64 x0) rfl rfl hE rfl (r_move hE rfl) (fun a hE=>?_)
    refine t_val (v:=.int .i64 (IntKind.wrap .i64 (x0 * 2))) rfl rfl hE rfl (r_bin hE rfl rfl g_int b_mul) (fun a hE=>?_)
    refine t_val (v:=.int .i64 x0) rfl rfl hE rfl (r_move hE rfl) (fun a hE=>?_)
    refine t_val (v:=.int .i64 (IntKind.wrap .i64 (x0 * 2))) rfl rfl hE rfl (r_bin hE rfl rfl g_int b_mul) (fun a hE=>?_)
    refine t_val (v:=.int .i64 (IntKind.wrap .i64 ((IntKind.wrap .i64 (x0 * 2)) + 2))) rfl rfl hE rfl (r_bin hE rfl rfl g_int b_add) (fun a hE=>?_)
    obtain ⟨x14_7,qx14_7,H⟩:=H
    refine t_val (v:=.string x14_7) rfl rfl hE rfl (r_sliceS_lh hE rfl rfl rfl un9 qx14_7) (fun a hE=>?_)
    refine t_val (v:=.string x14_7) rfl rfl hE rfl (r_assign hE rfl) (fun a hE=>?_)
    refine t_nil ?_
    refine hK_6 _ _ ?_
    refine w_ret ?_
    exact hret _ _ _ x14_7 _ hE hR (res_run hE rfl (RV.tmp rfl RV.nil)) rfl H

def math_bits_Len64_j3 (x0_6 : Int) (x2_7 : Int) : M (Int):=do
  let x22_9 ← ixS (⟨#[0,1,2,2,3,3,3,3,4,4,4,4,4,4,4,4,5,5,5,5,5,5,5,5,5,5,5,5,5,5,5,5,6,6,6,6,6,6,6,6,6,6,6,6,6,6,6,6,6,6,6,6,6,6,6,6,6,6,6,6,6,6,6,6,7,7,7,7,7,7,7,7,7,7,7,7,7,7,7,7,7,7,7,7,7,7,7,7,7,7,7,7,7,7,7,7,7,7,7,7,7,7,7,7,7,7,7,7,7,7,7,7,7,7,7,7,7,7,7,7,7,7,7,7,7,7,7,7,8,8,8,8,8,8,8,8,8,8,8,8,8,8,8,8,8,8,8,8,8,8,8,8,8,8,8,8,8,8,8,8,8,8,8,8,8,8,8,8,8,8,8,8,8,8,8,8,8,8,8,8,8,8,8,8,8,8,8,8,8,8,8,8,8,8,8,8,8,8,8,8,8,8,8,8,8,8,8,8,8,8,8,8,8,8,8,8,8,8,8,8,8,8,8,8,8,8,8,8,8,8,8,8,8,8,8,8,8,8,8,8,8,8,8,8,8,8,8,8,8,8,8,8,8,8,8,8]⟩ : ByteArray) (IntKind.wrap .u8 x0_6)
  M.pure (IntKind.wrap .i64 (x2_7 + (IntKind.wrap .i64 x22_9)))
def math_bits_Len64_j2 (x0_4 : Int) (x2_5 : Int) : M (Int):=do
  M.ite (decide (x0_4 ≥ 256)) (do
    math_bits_Len64_j3 (iShr .u64 x0_4 8) (IntKind.wrap .i64 (x2_5 + 8))
    ) (do
    math_bits_Len64_j3 x0_4 x2_5
    )
def math_bits_Len64_j1 (x0_2 : Int) (x2_3 : Int) : M (Int):=do
  M.ite (decide (x0_2 ≥ 65536)) (do
    math_bits_Len64_j2 (iShr .u64 x0_2 16) (IntKind.wrap .i64 (x2_3 + 16))
    ) (do
    math_bits_Len64_j2 x0_2 x2_3
    )
def math_bits_Len64 (x0 : Int) : M (Int):=do
  M.ite (decide (x0 ≥ 4294967296)) (do
    math_bits_Len64_j1 (iShr .u64 x0 32) 32
    ) (do
    math_bits_Len64_j1 x0 0
    )
theorem S_math_bits_Len64 (x0 : Int) : Sound Go.Proofs.Tryz.prog 217 #[.int .u64 x0] (fun (r : Int)=>.int .i64 r) (math_bits_Len64 x0):=by
  refine sound_of [(0,.int .u64 x0)] Go.Proofs.Tryz.func217 rfl rfl (Nat.le_of_ble_eq_true rfl) (args_of ⟨rfl,trivial⟩) (fun w0 w Q R a hret hE hR H=>?_)
  unfold math_bits_Len64 at H
  refine w_seq (fun K hK_1=>?_)
  refine t_region ?_
  refine t_val (v:=.int .i64 0) rfl rfl hE rfl (r_assign hE rfl) (fun a hE=>?_)
  refine t_nil ?_
  refine hK_1 _ _ ?_
  refine w_seq_join (fun a w=>∃ (x0_2 : Int),∃ (x2_3 : Int),Env (⟨25,[]⟩ : Frm) a [(0,.int .u64 x0_2),(2,.int .i64 x2_3)] ∧ Rest w0 w ∧ (math_bits_Len64_j1 x0_2 x2_3).wp w.heap Q) ?_ ?_
  · rintro a w ⟨x0_2,x2_3,hE,hR,H⟩
    unfold math_bits_Len64_j1 at H
    refine w_seq_join (fun a w=>∃ (x0_4 : Int),∃ (x2_5 : Int),Env (⟨25,[]⟩ : Frm) a [(0,.int .u64 x0_4),(2,.int .i64 x2_5)] ∧ Rest w0 w ∧ (math_bits_Len64_j2 x0_4 x2_5).wp w.heap Q) ?_ ?_
    · rintro a w ⟨x0_4,x2_5,hE,hR,H⟩
      unfold math_bits_Len64_j2 at H
      refine w_seq_join (fun a w=>∃ (x0_6 : Int),∃ (x2_7 : Int),Env (⟨25,[]⟩ : Frm) a [(0,.int .u64 x0_6),(2,.int .i64 x2_7)] ∧ Rest w0 w ∧ (math_bits_Len64_j3 x0_6 x2_7).wp w.heap Q) ?_ ?_
      · rintro a w ⟨x0_6,x2_7,hE,hR,H⟩
        unfold math_bits_Len64_j3 at H
        refine w_seq (fun K hK_8=>?_)
        refine t_region ?_
        refine t_val (v:=.int .i64 x2_7) rfl rfl hE rfl (r_move hE rfl) (fun a hE=>?_)
        refine t_val (v:=.int .u64 x0_6) rfl rfl hE rfl (r_move hE rfl) (fun a hE=>?_)
        refine t_val (v:=.int .u8 (IntKind.wrap .u8 x0_6)) rfl rfl hE rfl (r_convI hE rfl un154 un5) (fun a hE=>?_)
        obtain ⟨x22_9,qx22_9,H⟩:=H
        refine t_val (v:=.int .u8 x22_9) rfl rfl hE rfl (r_indexS hE rfl rfl un9 qx22_9) (fun a hE=>?_)
        refine t_val (v:=.int .i64 (IntKind.wrap .i64 x22_9)) rfl rfl hE rfl (r_convI hE rfl un5 un3) (fun a hE=>?_)
        refine t_val (v:=.int .i64 (IntKind.wrap .i64 (x2_7 + (IntKind.wrap .i64 x22_9)))) rfl rfl hE rfl (r_bin hE rfl rfl g_int b_add) (fun a hE=>?_)
        refine t_val (v:=.int .i64 (IntKind.wrap .i64 (x2_7 + (IntKind.wrap .i64 x22_9)))) rfl rfl hE rfl (r_assign hE rfl) (fun a hE=>?_)
        refine t_nil ?_
        refine hK_8 _ _ ?_
        refine w_ret ?_
        exact hret _ _ _ (IntKind.wrap .i64 (x2_7 + (IntKind.wrap .i64 x22_9))) _ hE hR (res_run hE rfl (RV.tmp rfl RV.nil)) rfl H
      · skip
        refine w_seq (fun K hK_10=>?_)
        refine t_region ?_
        refine t_val (v:=.int .u64 x0_4) rfl rfl hE rfl (r_move hE rfl) (fun a hE=>?_)
        refine t_val (v:=.bool (decide (x0_4 ≥ 256))) rfl rfl hE rfl (r_bin hE rfl rfl g_int b_geq) (fun a hE=>?_)
        refine t_nil ?_
        refine hK_10 _ _ ?_
        refine w_cond (decide (x0_4 ≥ 256)) hE rfl (fun hb=>?_) (fun hb=>?_)
        · replace H:=M.ite_t hb H
          refine w_seq (fun K hK_11=>?_)
          refine t_region ?_
          refine t_val (v:=.int .u64 x0_4) rfl rfl hE rfl (r_move hE rfl) (fun a hE=>?_)
          refine t_val (v:=.int .u64 (iShr .u64 x0_4 8)) rfl rfl hE rfl (r_bin hE rfl rfl g_int (b_shr ⟨by decide,rfl⟩)) (fun a hE=>?_)
          refine t_val (v:=.int .u64 (iShr .u64 x0_4 8)) rfl rfl hE rfl (r_assign hE rfl) (fun a hE=>?_)
          refine t_nil ?_
          refine hK_11 _ _ ?_
          refine t_region ?_
          refine t_val (v:=.int .i64 x2_5) rfl rfl hE rfl (r_move hE rfl) (fun a hE=>?_)
          refine t_val (v:=.int .i64 (IntKind.wrap .i64 (x2_5 + 8))) rfl rfl hE rfl (r_bin hE rfl rfl g_int b_add) (fun a hE=>?_)
          refine t_val (v:=.int .i64 (IntKind.wrap .i64 (x2_5 + 8))) rfl rfl hE rfl (r_assign hE rfl) (fun a hE=>?_)
          refine t_nil ?_
          exact ⟨iShr .u64 x0_4 8,IntKind.wrap .i64 (x2_5 + 8),hE.cut (.cons rfl (.cons rfl Subs.nil)),hR,H⟩
        · replace H:=M.ite_f hb H
          refine w_skip ?_
          exact ⟨x0_4,x2_5,hE.cut (.cons rfl (.cons rfl Subs.nil)),hR,H⟩
    · skip
      refine w_seq (fun K hK_12=>?_)
      refine t_region ?_
      refine t_val (v:=.int .u64 x0_2) rfl rfl hE rfl (r_move hE rfl) (fun a hE=>?_)
      refine t_val (v:=.bool (decide (x0_2 ≥ 65536))) rfl rfl hE rfl (r_bin hE rfl rfl g_int b_geq) (fun a hE=>?_)
      refine t_nil ?_
      refine hK_12 _ _ ?_
      refine w_cond (decide (x0_2 ≥ 65536)) hE rfl (fun hb=>?_) (fun hb=>?_)
      · replace H:=M.ite_t hb H
        refine w_seq (fun K hK_13=>?_)
        refine t_region ?_
        refine t_val (v:=.int .u64 x0_2) rfl rfl hE rfl (r_move hE rfl) (fun a hE=>?_)
        refine t_val (v:=.int .u64 (iShr .u64 x0_2 16)) rfl rfl hE rfl (r_bin hE rfl rfl g_int (b_shr ⟨by decide,rfl⟩)) (fun a hE=>?_)
        refine t_val (v:=.int .u64 (iShr .u64 x0_2 16)) rfl rfl hE rfl (r_assign hE rfl) (fun a hE=>?_)
        refine t_nil ?_
        refine hK_13 _ _ ?_
        refine t_region ?_
        refine t_val (v:=.int .i64 x2_3) rfl rfl hE rfl (r_move hE rfl) (fun a hE=>?_)
        refine t_val (v:=.int .i64 (IntKind.wrap .i64 (x2_3 + 16))) rfl rfl hE rfl (r_bin hE rfl rfl g_int b_add) (fun a hE=>?_)
        refine t_val (v:=.int .i64 (IntKind.wrap .i64 (x2_3 + 16))) rfl rfl hE rfl (r_assign hE rfl) (fun a hE=>?_)
        refine t_nil ?_
        exact ⟨iShr .u64 x0_2 16,IntKind.wrap .i64 (x2_3 + 16),hE.cut (.cons rfl (.cons rfl Subs.nil)),hR,H⟩
      · replace H:=M.ite_f hb H
        refine w_skip ?_
        exact ⟨x0_2,x2_3,hE.cut (.cons rfl (.cons rfl Subs.nil)),hR,H⟩
  · skip
    refine w_seq (fun K hK_14=>?_)
    refine t_region ?_
    refine t_val (v:=.int .u64 x0) rfl rfl hE rfl (r_move hE rfl) (fun a hE=>?_)
    refine t_val (v:=.bool (decide (x0 ≥ 4294967296))) rfl rfl hE rfl (r_bin hE rfl rfl g_int b_geq) (fun a hE=>?_)
    refine t_nil ?_
    refine hK_14 _ _ ?_
    refine w_cond (decide (x0 ≥ 4294967296)) hE rfl (fun hb=>?_) (fun hb=>?_)
    · replace H:=M.ite_t hb H
      refine w_seq (fun K hK_15=>?_)
      refine t_region ?_
      refine t_val (v:=.int .u64 x0) rfl rfl hE rfl (r_move hE rfl) (fun a hE=>?_)
      refine t_val (v:=.int .u64 (iShr .u64 x0 32)) rfl rfl hE rfl (r_bin hE rfl rfl g_int (b_shr ⟨by decide,rfl⟩)) (fun a hE=>?_)
      refine t_val (v:=.int .u64 (iShr .u64 x0 32)) rfl rfl hE rfl (r_assign hE rfl) (fun a hE=>?_)
      refine t_nil ?_
      refine hK_15 _ _ ?_
      refine t_region ?_
      refine t_val (v:=.int .i64 32) rfl rfl hE rfl (r_assign hE rfl) (fun a hE=>?_)
      refine t_nil ?_
      exact ⟨iShr .u64 x0 32,32,hE.cut (.cons rfl (.cons rfl Subs.nil)),hR,H⟩
    · replace H:=M.ite_f hb H
      refine w_skip ?_
      exact ⟨x0,0,hE.cut (.cons rfl (.cons rfl Subs.nil)),hR,H⟩

def internal_strconv_log10Pow2 (x0 : Int) : M (Int):=do
  M.pure (iShr .i64 (IntKind.wrap .i64 (x0 * 78913)) 18)
theorem S_internal_strconv_log10Pow2 (x0 : Int) : Sound Go.Proofs.Tryz.prog 247 #[.int .i64 x0] (fun (r : Int)=>.int .i64 r) (internal_strconv_log10Pow2 x0):=by
  refine sound_of [(0,.int .i64 x0)] Go.Proofs.Tryz.func247 rfl rfl (Nat.le_of_ble_eq_true rfl) (args_of ⟨rfl,trivial⟩) (fun w0 w Q R a hret hE hR H=>?_)
  unfold internal_strconv_log10Pow2 at H
  refine w_seq (fun K hK_1=>?_)
  refine t_region ?_
  refine t_val (v:=.int .i64 0) rfl rfl hE rfl (r_assign hE rfl) (fun a hE=>?_)
  refine t_nil ?_
  refine hK_1 _ _ ?_
  refine w_seq (fun K hK_2=>?_)
  refine t_region ?_
  refine t_val (v:=.int .i64 x0) rfl rfl hE rfl (r_move hE rfl) (fun a hE=>?_)
  refine t_val (v:=.int .i64 (IntKind.wrap .i64 (x0 * 78913))) rfl rfl hE rfl (r_bin hE rfl rfl g_int b_mul) (fun a hE=>?_)
  refine t_val (v:=.int .i64 (iShr .i64 (IntKind.wrap .i64 (x0 * 78913)) 18)) rfl rfl hE rfl (r_bin hE rfl rfl g_int (b_shr ⟨by decide,rfl⟩)) (fun a hE=>?_)
  refine t_val (v:=.int .i64 (iShr .i64 (IntKind.wrap .i64 (x0 * 78913)) 18)) rfl rfl hE rfl (r_assign hE rfl) (fun a hE=>?_)
  refine t_nil ?_
  refine hK_2 _ _ ?_
  refine w_ret ?_
  exact hret _ _ _ (iShr .i64 (IntKind.wrap .i64 (x0 * 78913)) 18) _ hE hR (res_run hE rfl (RV.tmp rfl RV.nil)) rfl H

def internal_strconv_bool2_int (x0 : Bool) : M (Int):=do
  M.ite x0 (do
    M.pure 1
    ) (do
    M.pure 0
    )
theorem S_internal_strconv_bool2_int (x0 : Bool) : Sound Go.Proofs.Tryz.prog 248 #[.bool x0] (fun (r : Int)=>.int .i64 r) (internal_strconv_bool2_int x0):=by
  refine sound_of [(0,.bool x0)] Go.Proofs.Tryz.func248 rfl rfl (Nat.le_of_ble_eq_true rfl) (args_of ⟨rfl,trivial⟩) (fun w0 w Q R a hret hE hR H=>?_)
  unfold internal_strconv_bool2_int at H
  refine w_seq (fun K hK_1=>?_)
  refine t_region ?_
  refine t_val (v:=.int .i64 0) rfl rfl hE rfl (r_assign hE rfl) (fun a hE=>?_)
  refine t_nil ?_
  refine hK_1 _ _ ?_
  refine w_seq (fun K hK_2=>?_)
  refine w_seq (fun K hK_3=>?_)
  refine t_region ?_
  refine t_val (v:=.bool x0) rfl rfl hE rfl (r_move hE rfl) (fun a hE=>?_)
  refine t_nil ?_
  refine hK_3 _ _ ?_
  refine w_cond x0 hE rfl (fun hb=>?_) (fun hb=>?_)
  · replace H:=M.ite_t hb H
    refine w_seq (fun K hK_4=>?_)
    refine t_region ?_
    refine t_val (v:=.int .i64 1) rfl rfl hE rfl (r_assign hE rfl) (fun a hE=>?_)
    refine t_nil ?_
    refine hK_4 _ _ ?_
    refine w_ret ?_
    exact hret _ _ _ 1 _ hE hR (res_run hE rfl (RV.tmp rfl RV.nil)) rfl H
  · replace H:=M.ite_f hb H
    refine w_skip ?_
    refine hK_2 _ _ ?_
    refine w_seq (fun K hK_5=>?_)
    refine t_region ?_
    refine t_val (v:=.int .i64 0) rfl rfl hE rfl (r_assign hE rfl) (fun a hE=>?_)
    refine t_nil ?_
    refine hK_5 _ _ ?_
    refine w_ret ?_
    exact hret _ _ _ 0 _ hE hR (res_run hE rfl (RV.tmp rfl RV.nil)) rfl H

def internal_strconv_numDigits (x0 : Int) : M (Int):=do
  let x5_3 ← math_bits_Len64 x0
  let x6_4 ← internal_strconv_log10Pow2 x5_3
  let x10_6 ← ixA (⟨3,0,none⟩ : Addr) 20 x6_4 1
  let x11_7 ← ldI .u64 x10_6
  let x13_8 ← internal_strconv_bool2_int (decide (x0 ≥ x11_7))
  M.pure (IntKind.wrap .i64 (x6_4 + x13_8))
theorem S_internal_strconv_numDigits (x0 : Int) : Sound Go.Proofs.Tryz.prog 228 #[.int .u64 x0] (fun (r : Int)=>.int .i64 r) (internal_strconv_numDigits x0):=by
  refine sound_of [(0,.int .u64 x0)] Go.Proofs.Tryz.func228 rfl rfl (Nat.le_of_ble_eq_true rfl) (args_of ⟨rfl,trivial⟩) (fun w0 w Q R a hret hE hR H=>?_)
  unfold internal_strconv_numDigits at H
  refine w_seq (fun K hK_1=>?_)
  refine t_region ?_
  refine t_val (v:=.int .i64 0) rfl rfl hE rfl (r_assign hE rfl) (fun a hE=>?_)
  refine t_nil ?_
  refine hK_1 _ _ ?_
  refine w_seq (fun K hK_2=>?_)
  refine t_region ?_
  refine t_val (v:=.int .u64 x0) rfl rfl hE rfl (r_move hE rfl) (fun a hE=>?_)
  refine t_call hE hR cl_math_bits_Len64 rfl (S_math_bits_Len64 x0) (M.unbind H) (fun x5_3 a w ea hR H=>?_)
  have hE:=Env.put_some hE rfl ea; clear ea
  refine t_call hE hR cl_internal_strconv_log10Pow2 rfl (S_internal_strconv_log10Pow2 x5_3) (M.unbind H) (fun x6_4 a w ea hR H=>?_)
  have hE:=Env.put_some hE rfl ea; clear ea
  refine t_val (v:=.int .i64 x6_4) rfl rfl hE rfl (r_assign hE rfl) (fun a hE=>?_)
  refine t_nil ?_
  refine hK_2 _ _ ?_
  refine w_seq (fun K hK_5=>?_)
  refine t_region ?_
  refine t_val (v:=.int .i64 x6_4) rfl rfl hE rfl (r_move hE rfl) (fun a hE=>?_)
  refine t_val (v:=.int .u64 x0) rfl rfl hE rfl (r_move hE rfl) (fun a hE=>?_)
  refine t_val (v:=.int .i64 x6_4) rfl rfl hE rfl (r_move hE rfl) (fun a hE=>?_)
  obtain ⟨x10_6,qx10_6,H⟩:=H
  refine t_val (v:=.pointer (some x10_6)) rfl rfl hE rfl (r_indexAddrA hE rfl rfl un245 sz154 qx10_6) (fun a hE=>?_)
  obtain ⟨x11_7,qx11_7,H⟩:=H
  refine t_val (v:=.int .u64 x11_7) rfl rfl hE rfl (r_load hE rfl sc154 qx11_7) (fun a hE=>?_)
  refine t_val (v:=.bool (decide (x0 ≥ x11_7))) rfl rfl hE rfl (r_bin hE rfl rfl g_int b_geq) (fun a hE=>?_)
  refine t_call hE hR cl_internal_strconv_bool2_int rfl (S_internal_strconv_bool2_int (decide (x0 ≥ x11_7))) (M.unbind H) (fun x13_8 a w ea hR H=>?_)
  have hE:=Env.put_some hE rfl ea; clear ea
  refine t_val (v:=.int .i64 (IntKind.wrap .i64 (x6_4 + x13_8))) rfl rfl hE rfl (r_bin hE rfl rfl g_int b_add) (fun a hE=>?_)
  refine t_val (v:=.int .i64 (IntKind.wrap .i64 (x6_4 + x13_8))) rfl rfl hE rfl (r_assign hE rfl) (fun a hE=>?_)
  refine t_nil ?_
  refine hK_5 _ _ ?_
  refine w_ret ?_
  exact hret _ _ _ (IntKind.wrap .i64 (x6_4 + x13_8)) _ hE hR (res_run hE rfl (RV.tmp rfl RV.nil)) rfl H

def internal_strconv_isPowerOfTwo (x0 : Int) : M (Bool):=do
  M.pure ((iAnd .i64 x0 (IntKind.wrap .i64 (x0 - 1))) == 0)
theorem S_internal_strconv_isPowerOfTwo (x0 : Int) : Sound Go.Proofs.Tryz.prog 249 #[.int .i64 x0] (fun (r : Bool)=>.bool r) (internal_strconv_isPowerOfTwo x0):=by
  refine sound_of [(0,.int .i64 x0)] Go.Proofs.Tryz.func249 rfl rfl (Nat.le_of_ble_eq_true rfl) (args_of ⟨rfl,trivial⟩) (fun w0 w Q R a hret hE hR H=>?_)
  unfold internal_strconv_isPowerOfTwo at H
  refine w_seq (fun K hK_1=>?_)
  refine t_region ?_
  refine t_val (v:=.bool false) rfl rfl hE rfl (r_assign hE rfl) (fun a hE=>?_)
  refine t_nil ?_
  refine hK_1 _ _ ?_
  refine w_seq (fun K hK_2=>?_)
  refine t_region ?_
  refine t_val (v:=.int .i64 x0) rfl rfl hE rfl (r_move hE rfl) (fun a hE=>?_)
  refine t_val (v:=.int .i64 x0) rfl rfl hE rfl (r_move hE rfl) (fun a hE=>?_)
  refine t_val (v:=.int .i64 (IntKind.wrap .i64 (x0 - 1))) rfl rfl hE rfl (r_bin hE rfl rfl g_int b_sub) (fun a hE=>?_)
  refine t_val (v:=.int .i64 (iAnd .i64 x0 (IntKind.wrap .i64 (x0 - 1)))) rfl rfl hE rfl (r_bin hE rfl rfl g_int b_and) (fun a hE=>?_)
  refine t_val (v:=.bool ((iAnd .i64 x0 (IntKind.wrap .i64 (x0 - 1))) == 0)) rfl rfl hE rfl (r_bin hE rfl rfl g_int b_eql) (fun a hE=>?_)
  refine t_val (v:=.bool ((iAnd .i64 x0 (IntKind.wrap .i64 (x0 - 1))) == 0)) rfl rfl hE rfl (r_assign hE rfl) (fun a hE=>?_)
  refine t_nil ?_
  refine hK_2 _ _ ?_
  refine w_ret ?_
  exact hret _ _ _ ((iAnd .i64 x0 (IntKind.wrap .i64 (x0 - 1))) == 0) _ hE hR (res_run hE rfl (RV.tmp rfl RV.nil)) rfl H

def math_bits_TrailingZeros64 (x0 : Int) : M (Int):=do
  M.ite (x0 == 0) (do
    M.pure 64
    ) (do
    let x11_6 ← ixA (⟨7,0,none⟩ : Addr) 64 (iShr .u64 (IntKind.wrap .u64 ((iAnd .u64 x0 (IntKind.wrap .u64 (0 - x0))) * 285870213051353865)) 58) 1
    let x12_7 ← ldI .u8 x11_6
    M.pure (IntKind.wrap .i64 x12_7)
    )
theorem S_math_bits_TrailingZeros64 (x0 : Int) : Sound Go.Proofs.Tryz.prog 259 #[.int .u64 x0] (fun (r : Int)=>.int .i64 r) (math_bits_TrailingZeros64 x0):=by
  refine sound_of [(0,.int .u64 x0)] Go.Proofs.Tryz.func259 rfl rfl (Nat.le_of_ble_eq_true rfl) (args_of ⟨rfl,trivial⟩) (fun w0 w Q R a hret hE hR H=>?_)
  unfold math_bits_TrailingZeros64 at H
  refine w_seq (fun K hK_1=>?_)
  refine t_region ?_
  refine t_val (v:=.int .i64 0) rfl rfl hE rfl (r_assign hE rfl) (fun a hE=>?_)
  refine t_nil ?_
  refine hK_1 _ _ ?_
  refine w_seq (fun K hK_2=>?_)
  refine w_seq (fun K hK_3=>?_)
  refine t_region ?_
  refine t_val (v:=.int .u64 x0) rfl rfl hE rfl (r_move hE rfl) (fun a hE=>?_)
  refine t_val (v:=.bool (x0 == 0)) rfl rfl hE rfl (r_bin hE rfl rfl g_int b_eql) (fun a hE=>?_)
  refine t_nil ?_
  refine hK_3 _ _ ?_
  refine w_cond (x0 == 0) hE rfl (fun hb=>?_) (fun hb=>?_)
  · replace H:=M.ite_t hb H
    refine w_seq (fun K hK_4=>?_)
    refine t_region ?_
    refine t_val (v:=.int .i64 64) rfl rfl hE rfl (r_assign hE rfl) (fun a hE=>?_)
    refine t_nil ?_
    refine hK_4 _ _ ?_
    refine w_ret ?_
    exact hret _ _ _ 64 _ hE hR (res_run hE rfl (RV.tmp rfl RV.nil)) rfl H
  · replace H:=M.ite_f hb H
    refine w_skip ?_
    refine hK_2 _ _ ?_
    refine w_seq (fun K hK_5=>?_)
    refine t_region ?_
    refine t_val (v:=.int .u64 x0) rfl rfl hE rfl (r_move hE rfl) (fun a hE=>?_)
    refine t_val (v:=.int .u64 x0) rfl rfl hE rfl (r_move hE rfl) (fun a hE=>?_)
    refine t_val (v:=.int .u64 (IntKind.wrap .u64 (0 - x0))) rfl rfl hE rfl (r_un hE rfl u_neg) (fun a hE=>?_)
    refine t_val (v:=.int .u64 (iAnd .u64 x0 (IntKind.wrap .u64 (0 - x0)))) rfl rfl hE rfl (r_bin hE rfl rfl g_int b_and) (fun a hE=>?_)
    refine t_val (v:=.int .u64 (IntKind.wrap .u64 ((iAnd .u64 x0 (IntKind.wrap .u64 (0 - x0))) * 285870213051353865))) rfl rfl hE rfl (r_bin hE rfl rfl g_int b_mul) (fun a hE=>?_)
    refine t_val (v:=.int .u64 (iShr .u64 (IntKind.wrap .u64 ((iAnd .u64 x0 (IntKind.wrap .u64 (0 - x0))) * 285870213051353865)) 58)) rfl rfl hE rfl (r_bin hE rfl rfl g_int (b_shr ⟨by decide,rfl⟩)) (fun a hE=>?_)
    obtain ⟨x11_6,qx11_6,H⟩:=H
    refine t_val (v:=.pointer (some x11_6)) rfl rfl hE rfl (r_indexAddrA hE rfl rfl un259 sz5 qx11_6) (fun a hE=>?_)
    obtain ⟨x12_7,qx12_7,H⟩:=H
    refine t_val (v:=.int .u8 x12_7) rfl rfl hE rfl (r_load hE rfl sc5 qx12_7) (fun a hE=>?_)
    refine t_val (v:=.int .i64 (IntKind.wrap .i64 x12_7)) rfl rfl hE rfl (r_convI hE rfl un5 un3) (fun a hE=>?_)
    refine t_val (v:=.int .i64 (IntKind.wrap .i64 x12_7)) rfl rfl hE rfl (r_assign hE rfl) (fun a hE=>?_)
    refine t_nil ?_
    refine hK_5 _ _ ?_
    refine w_ret ?_
    exact hret _ _ _ (IntKind.wrap .i64 x12_7) _ hE hR (res_run hE rfl (RV.tmp rfl RV.nil)) rfl H

def math_bits_TrailingZeros (x0 : Int) : M (Int):=do
  let x7_4 ← math_bits_TrailingZeros64 x0
  M.pure x7_4
theorem S_math_bits_TrailingZeros (x0 : Int) : Sound Go.Proofs.Tryz.prog 250 #[.int .u64 x0] (fun (r : Int)=>.int .i64 r) (math_bits_TrailingZeros x0):=by
  refine sound_of [(0,.int .u64 x0)] Go.Proofs.Tryz.func250 rfl rfl (Nat.le_of_ble_eq_true rfl) (args_of ⟨rfl,trivial⟩) (fun w0 w Q R a hret hE hR H=>?_)
  unfold math_bits_TrailingZeros at H
  refine w_seq (fun K hK_1=>?_)
  refine t_region ?_
  refine t_val (v:=.int .i64 0) rfl rfl hE rfl (r_assign hE rfl) (fun a hE=>?_)
  refine t_nil ?_
  refine hK_1 _ _ ?_
  refine w_seq (fun K hK_2=>?_)
  refine w_cond_const false (fun hb=>by cases hb) (fun _=>?_)
  refine w_skip ?_
  refine hK_2 _ _ ?_
  refine w_seq (fun K hK_3=>?_)
  refine t_region ?_
  refine t_val (v:=.int .u64 x0) rfl rfl hE rfl (r_move hE rfl) (fun a hE=>?_)
  refine t_call hE hR cl_math_bits_TrailingZeros64 rfl (S_math_bits_TrailingZeros64 x0) (M.unbind H) (fun x7_4 a w ea hR H=>?_)
  have hE:=Env.put_some hE rfl ea; clear ea
  refine t_val (v:=.int .i64 x7_4) rfl rfl hE rfl (r_assign hE rfl) (fun a hE=>?_)
  refine t_nil ?_
  refine hK_3 _ _ ?_
  refine w_ret ?_
  exact hret _ _ _ x7_4 _ hE hR (res_run hE rfl (RV.tmp rfl RV.nil)) rfl H

end Gx
