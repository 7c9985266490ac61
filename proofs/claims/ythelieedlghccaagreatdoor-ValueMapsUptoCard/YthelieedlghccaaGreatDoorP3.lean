/- Printed by program: Go functions as Lean programs, each tied to its code. No condition. -/
import Derived.Test.YthelieedlghccaaGreatDoorP0
import Derived.Test.YthelieedlghccaaGreatDoorP1
import Derived.Test.YthelieedlghccaaGreatDoorP2
set_option linter.unusedVariables false
set_option linter.unusedSimpArgs false
namespace Gx
open Go
set_option linter.unusedVariables false
set_option maxRecDepth 100000
def strconv_FormatInt (x0 : Int) (x1 : Int) : M (ByteArray):=do
  let x7_3 ← callF Go.Proofs.Tryz.prog fn_internal_strconv_FormatInt #[.int .i64 x0,.int .i64 x1] (fun r : ByteArray=>.string r)
  M.pure x7_3
theorem S_strconv_FormatInt (x0 : Int) (x1 : Int) : Sound Go.Proofs.Tryz.prog 156 #[.int .i64 x0,.int .i64 x1] (fun (r : ByteArray)=>.string r) (strconv_FormatInt x0 x1):=by
  refine sound_of [(0,.int .i64 x0),(1,.int .i64 x1)] Go.Proofs.Tryz.func156 rfl rfl (Nat.le_of_ble_eq_true rfl) (args_of ⟨rfl,rfl,trivial⟩) (fun w0 w Q R a hret hE hR H=>?_)
  unfold strconv_FormatInt at H
  refine w_seq (fun K hK_1=>?_)
  refine t_region ?_
  refine t_val (v:=.string ByteArray.empty) rfl rfl hE rfl (r_assign hE rfl) (fun a hE=>?_)
  refine t_nil ?_
  refine hK_1 _ _ ?_
  refine w_seq (fun K hK_2=>?_)
  refine t_region ?_
  refine t_val (v:=.int .i64 x0) rfl rfl hE rfl (r_move hE rfl) (fun a hE=>?_)
  refine t_val (v:=.int .i64 x1) rfl rfl hE rfl (r_move hE rfl) (fun a hE=>?_)
  refine t_call hE hR cl_internal_strconv_FormatInt rfl (sound_callF) (M.unbind H) (fun x7_3 a w ea hR H=>?_)
  have hE:=Env.put_some hE rfl ea; clear ea
  refine t_val (v:=.string x7_3) rfl rfl hE rfl (r_assign hE rfl) (fun a hE=>?_)
  refine t_nil ?_
  refine hK_2 _ _ ?_
  refine w_ret ?_
  exact hret _ _ _ x7_3 _ hE hR (res_run hE rfl (RV.tmp rfl RV.nil)) rfl H

def num_Text (x0 : Int) : M (ByteArray):=do
  let x4_3 ← strconv_FormatInt x0 10
  M.pure x4_3
theorem S_num_Text (x0 : Int) : Sound Go.Proofs.Tryz.prog 109 #[.int .i64 x0] (fun (r : ByteArray)=>.string r) (num_Text x0):=by
  refine sound_of [(0,.int .i64 x0)] Go.Proofs.Tryz.func109 rfl rfl (Nat.le_of_ble_eq_true rfl) (args_of ⟨rfl,trivial⟩) (fun w0 w Q R a hret hE hR H=>?_)
  unfold num_Text at H
  refine w_seq (fun K hK_1=>?_)
  refine t_region ?_
  refine t_val (v:=.string ByteArray.empty) rfl rfl hE rfl (r_assign hE rfl) (fun a hE=>?_)
  refine t_nil ?_
  refine hK_1 _ _ ?_
  refine w_seq (fun K hK_2=>?_)
  refine t_region ?_
  refine t_val (v:=.int .i64 x0) rfl rfl hE rfl (r_move hE rfl) (fun a hE=>?_)
  refine t_call hE hR cl_strconv_FormatInt rfl (S_strconv_FormatInt x0 10) (M.unbind H) (fun x4_3 a w ea hR H=>?_)
  have hE:=Env.put_some hE rfl ea; clear ea
  refine t_val (v:=.string x4_3) rfl rfl hE rfl (r_assign hE rfl) (fun a hE=>?_)
  refine t_nil ?_
  refine hK_2 _ _ ?_
  refine w_ret ?_
  exact hret _ _ _ x4_3 _ hE hR (res_run hE rfl (RV.tmp rfl RV.nil)) rfl H

def strings_Builder_WriteString (x0 : Option Addr) (x1 : ByteArray) : M (Int × Value):=do
  let x7_3 ← strings_Builder_copyCheck x0
  let x10_5 ← nilP x0
  let x12_6 ← ldL ((x10_5).add 1)
  let x14_7 ← apS ty_uint8 x12_6 x1
  let x15_8 ← nilP x0
  stV ((x15_8).add 1) ((x14_7 : Sl).v)
  M.pure ((x1.size : Int),Value.nilIface)
theorem S_strings_Builder_WriteString (x0 : Option Addr) (x1 : ByteArray) : Sound Go.Proofs.Tryz.prog 95 #[.pointer x0,.string x1] (fun (r : Int × Value)=>.tuple #[.int .i64 r.1,r.2]) (strings_Builder_WriteString x0 x1):=by
  refine sound_of [(0,.pointer x0),(1,.string x1)] Go.Proofs.Tryz.func95 rfl rfl (Nat.le_of_ble_eq_true rfl) (args_of ⟨rfl,rfl,trivial⟩) (fun w0 w Q R a hret hE hR H=>?_)
  unfold strings_Builder_WriteString at H
  refine w_seq (fun K hK_1=>?_)
  refine t_region ?_
  refine t_val (v:=.int .i64 0) rfl rfl hE rfl (r_assign hE rfl) (fun a hE=>?_)
  refine t_val (v:=Value.nilIface) rfl rfl hE rfl (r_assign hE rfl) (fun a hE=>?_)
  refine t_nil ?_
  refine hK_1 _ _ ?_
  refine w_seq (fun K hK_2=>?_)
  refine t_region ?_
  refine t_val (v:=.pointer x0) rfl rfl hE rfl (r_move hE rfl) (fun a hE=>?_)
  refine t_call hE hR cl_strings_Builder_copyCheck rfl (S_strings_Builder_copyCheck x0) (M.unbind H) (fun x7_3 a w ea hR H=>?_)
  have hE:=Env.put_some hE rfl ea; clear ea
  refine t_nil ?_
  refine hK_2 _ _ ?_
  refine w_seq (fun K hK_4=>?_)
  refine t_region ?_
  refine t_val (v:=.pointer x0) rfl rfl hE rfl (r_move hE rfl) (fun a hE=>?_)
  refine t_val (v:=.pointer x0) rfl rfl hE rfl (r_move hE rfl) (fun a hE=>?_)
  obtain ⟨x10_5,qx10_5,H⟩:=H
  refine t_val (v:=.pointer (some x10_5)) rfl rfl hE rfl (r_nilCheck hE (hx_eq rfl (congrArg Value.pointer qx10_5))) (fun a hE=>?_)
  refine t_val (v:=.pointer (some ((x10_5).add 1))) rfl rfl hE rfl (r_fieldAddr hE rfl fd109_1) (fun a hE=>?_)
  obtain ⟨x12_6,qx12_6,H⟩:=H
  refine t_val (v:=(x12_6 : Sl).v) rfl rfl hE rfl (r_load hE rfl sc35 qx12_6) (fun a hE=>?_)
  refine t_val (v:=.string x1) rfl rfl hE rfl (r_move hE rfl) (fun a hE=>?_)
  refine t_ex (fun x14_7=>(x14_7 : Sl).v) rfl rfl hR (M.unbind H) (fun Q H=>apS_run hE rfl rfl ap35 un9 H) (fun x14_7 a w ea hR H=>?_)
  have hE:=Env.put_some hE rfl ea; clear ea
  obtain ⟨x15_8,qx15_8,H⟩:=H
  refine t_val (v:=.pointer (some x15_8)) rfl rfl hE rfl (r_nilCheck hE (hx_eq rfl (congrArg Value.pointer qx15_8))) (fun a hE=>?_)
  refine t_val (v:=.pointer (some ((x15_8).add 1))) rfl rfl hE rfl (r_fieldAddr hE rfl fd109_1) (fun a hE=>?_)
  obtain ⟨u_9,qu_9,H⟩:=H
  refine t_sth rfl rfl hE hR (r_store hE rfl rfl sz35 qu_9) (fun a w hE hR hh=>?_)
  replace H:=M.at hh H; clear hh
  refine t_nil ?_
  refine hK_4 _ _ ?_
  refine w_seq (fun K hK_10=>?_)
  refine t_region ?_
  refine t_val (v:=.string x1) rfl rfl hE rfl (r_move hE rfl) (fun a hE=>?_)
  refine t_val (v:=.int .i64 (x1.size : Int)) rfl rfl hE rfl (r_lenS hE rfl un9) (fun a hE=>?_)
  refine t_val (v:=.int .i64 (x1.size : Int)) rfl rfl hE rfl (r_assign hE rfl) (fun a hE=>?_)
  refine t_val (v:=Value.nilIface) rfl rfl hE rfl (r_assign hE rfl) (fun a hE=>?_)
  refine t_nil ?_
  refine hK_10 _ _ ?_
  refine w_ret ?_
  exact hret _ _ _ ((x1.size : Int),Value.nilIface) _ hE hR (res_run hE rfl (RV.tmp rfl (RV.tmp rfl RV.nil))) rfl H

def strings_Builder_WriteByte (x0 : Option Addr) (x1 : Int) : M (Value):=do
  let x6_3 ← strings_Builder_copyCheck x0
  let x9_5 ← nilP x0
  let x11_6 ← ldL ((x9_5).add 1)
  let x13_7 ← bdL ty_uint8 1 #[.int .u8 x1]
  let x14_8 ← apL ty_uint8 1 1 (#[.int .u8 0] : Array Value) x11_6 x13_7
  let x15_9 ← nilP x0
  stV ((x15_9).add 1) ((x14_8 : Sl).v)
  M.pure Value.nilIface
theorem S_strings_Builder_WriteByte (x0 : Option Addr) (x1 : Int) : Sound Go.Proofs.Tryz.prog 96 #[.pointer x0,.int .u8 x1] (fun (r : Value)=>r) (strings_Builder_WriteByte x0 x1):=by
  refine sound_of [(0,.pointer x0),(1,.int .u8 x1)] Go.Proofs.Tryz.func96 rfl rfl (Nat.le_of_ble_eq_true rfl) (args_of ⟨rfl,rfl,trivial⟩) (fun w0 w Q R a hret hE hR H=>?_)
  unfold strings_Builder_WriteByte at H
  refine w_seq (fun K hK_1=>?_)
  refine t_region ?_
  refine t_val (v:=Value.nilIface) rfl rfl hE rfl (r_assign hE rfl) (fun a hE=>?_)
  refine t_nil ?_
  refine hK_1 _ _ ?_
  refine w_seq (fun K hK_2=>?_)
  refine t_region ?_
  refine t_val (v:=.pointer x0) rfl rfl hE rfl (r_move hE rfl) (fun a hE=>?_)
  refine t_call hE hR cl_strings_Builder_copyCheck rfl (S_strings_Builder_copyCheck x0) (M.unbind H) (fun x6_3 a w ea hR H=>?_)
  have hE:=Env.put_some hE rfl ea; clear ea
  refine t_nil ?_
  refine hK_2 _ _ ?_
  refine w_seq (fun K hK_4=>?_)
  refine t_region ?_
  refine t_val (v:=.pointer x0) rfl rfl hE rfl (r_move hE rfl) (fun a hE=>?_)
  refine t_val (v:=.pointer x0) rfl rfl hE rfl (r_move hE rfl) (fun a hE=>?_)
  obtain ⟨x9_5,qx9_5,H⟩:=H
  refine t_val (v:=.pointer (some x9_5)) rfl rfl hE rfl (r_nilCheck hE (hx_eq rfl (congrArg Value.pointer qx9_5))) (fun a hE=>?_)
  refine t_val (v:=.pointer (some ((x9_5).add 1))) rfl rfl hE rfl (r_fieldAddr hE rfl fd109_1) (fun a hE=>?_)
  obtain ⟨x11_6,qx11_6,H⟩:=H
  refine t_val (v:=(x11_6 : Sl).v) rfl rfl hE rfl (r_load hE rfl sc35 qx11_6) (fun a hE=>?_)
  refine t_val (v:=.int .u8 x1) rfl rfl hE rfl (r_move hE rfl) (fun a hE=>?_)
  obtain ⟨x13_7,qx13_7,H⟩:=H
  refine t_valh (v:=(x13_7 : Sl).v) rfl rfl hE rfl hR (r_buildL (cells:=#[.int .u8 x1]) hE rfl un35 sz5 zr5 rfl rfl qx13_7) (fun a w hE hR hh=>?_)
  replace H:=M.at hh H; clear hh
  refine t_ex (fun x14_8=>(x14_8 : Sl).v) rfl rfl hR (M.unbind H) (fun Q H=>ap_run hE rfl rfl ap35 H) (fun x14_8 a w ea hR H=>?_)
  have hE:=Env.put_some hE rfl ea; clear ea
  obtain ⟨x15_9,qx15_9,H⟩:=H
  refine t_val (v:=.pointer (some x15_9)) rfl rfl hE rfl (r_nilCheck hE (hx_eq rfl (congrArg Value.pointer qx15_9))) (fun a hE=>?_)
  refine t_val (v:=.pointer (some ((x15_9).add 1))) rfl rfl hE rfl (r_fieldAddr hE rfl fd109_1) (fun a hE=>?_)
  obtain ⟨u_10,qu_10,H⟩:=H
  refine t_sth rfl rfl hE hR (r_store hE rfl rfl sz35 qu_10) (fun a w hE hR hh=>?_)
  replace H:=M.at hh H; clear hh
  refine t_nil ?_
  refine hK_4 _ _ ?_
  refine w_seq (fun K hK_11=>?_)
  refine t_region ?_
  refine t_val (v:=Value.nilIface) rfl rfl hE rfl (r_assign hE rfl) (fun a hE=>?_)
  refine t_nil ?_
  refine hK_11 _ _ ?_
  refine w_ret ?_
  exact hret _ _ _ Value.nilIface _ hE hR (res_run hE rfl (RV.tmp rfl RV.nil)) rfl H

theorem tb97_1 : tabAt Go.Proofs.Tryz.f97 1 [[],[0],[1],[2],[3],[],[5],[6],[7],[8],[4,9],[10,0,1,2,3,4,5,6,7,8,9,10]] [[],[0],[1],[2],[3],[],[5],[6],[7],[8],[4,9],[10]] [[],[0],[0,1],[0,1,2],[0,1,2,3],[],[5],[5,6],[5,6,7],[5,6,7,8],[0,1,2,3,4,5,6,7,8,9],[0,1,2,3,4,5,6,7,8,9,10]] = true:=by kernel_rfl
def strings_Builder_String (x0 : Option Addr) : M (ByteArray):=do
  let x4_3 ← nilP x0
  let x9_4 ← nilP x0
  let x6_5 ← ldL ((x4_3).add 1)
  let x11_6 ← ldL ((x9_4).add 1)
  let x7_7 ← uSD x6_5
  let x13_8 ← uStr ty_uint8 x7_7 (x11_6.len : Int)
  M.pure x13_8
theorem S_strings_Builder_String (x0 : Option Addr) : Sound Go.Proofs.Tryz.prog 97 #[.pointer x0] (fun (r : ByteArray)=>.string r) (strings_Builder_String x0):=by
  refine sound_of [(0,.pointer x0)] Go.Proofs.Tryz.func97 rfl rfl (Nat.le_of_ble_eq_true rfl) (args_of ⟨rfl,trivial⟩) (fun w0 w Q R a hret hE hR H=>?_)
  unfold strings_Builder_String at H
  refine w_seq (fun K hK_1=>?_)
  refine t_region ?_
  refine t_val (v:=.string ByteArray.empty) rfl rfl hE rfl (r_assign hE rfl) (fun a hE=>?_)
  refine t_nil ?_
  refine hK_1 _ _ ?_
  refine w_seq (fun K hK_2=>?_)
  obtain ⟨x4_3,qx4_3,H⟩:=H
  obtain ⟨x9_4,qx9_4,H⟩:=H
  obtain ⟨x6_5,qx6_5,H⟩:=H
  obtain ⟨x11_6,qx11_6,H⟩:=H
  have hT:=tab_of tb97_1 rfl rfl
  refine d_start (fun w : World=>(fun h : Heap=>(hcell h ((x4_3).add 1) = some ((x6_5 : Sl).v)) ∧ (hcell h ((x9_4).add 1) = some ((x11_6 : Sl).v))) w.heap) [10,11] #[false,false,false,false,false,false,false,false,false,false,false,false] mo hR rfl rfl (fun w' e=>by rw [e]; exact ⟨qx6_5,qx11_6⟩) (fun w hh hR hs=>?_)
  replace H:=M.at hh H; clear hh
  refine d_pureg (i:=0) (v:=.pointer x0) #[true,false,false,false,false,false,false,false,false,false,false,false] rfl rfl hT (by kernel_rfl) hE rfl (wanted_none rfl) (fun w=>r_move hE rfl) (fun a hE=>?_)
  refine d_pureg (i:=1) (v:=.pointer (some x4_3)) #[true,true,false,false,false,false,false,false,false,false,false,false] rfl rfl hT (by kernel_rfl) hE rfl (wanted_none rfl) (fun w=>r_nilCheck hE (hx_eq rfl (congrArg Value.pointer qx4_3))) (fun a hE=>?_)
  refine d_pureg (i:=2) (v:=.pointer (some ((x4_3).add 1))) #[true,true,true,false,false,false,false,false,false,false,false,false] rfl rfl hT (by kernel_rfl) hE rfl (wanted_none rfl) (fun w=>r_fieldAddr hE rfl fd109_1) (fun a hE=>?_)
  refine d_pureg (i:=5) (v:=.pointer x0) #[true,true,true,false,false,true,false,false,false,false,false,false] rfl rfl hT (by kernel_rfl) hE rfl (wanted_none rfl) (fun w=>r_move hE rfl) (fun a hE=>?_)
  refine d_pureg (i:=6) (v:=.pointer (some x9_4)) #[true,true,true,false,false,true,true,false,false,false,false,false] rfl rfl hT (by kernel_rfl) hE rfl (wanted_none rfl) (fun w=>r_nilCheck hE (hx_eq rfl (congrArg Value.pointer qx9_4))) (fun a hE=>?_)
  refine d_pureg (i:=7) (v:=.pointer (some ((x9_4).add 1))) #[true,true,true,false,false,true,true,true,false,false,false,false] rfl rfl hT (by kernel_rfl) hE rfl (wanted_none rfl) (fun w=>r_fieldAddr hE rfl fd109_1) (fun a hE=>?_)
  refine d_read (i:=3) (v:=(x6_5 : Sl).v) #[true,true,true,true,false,true,true,true,false,false,false,false] rfl rfl hT (by kernel_rfl) hE rfl (wanted_none rfl) hs (fun w s=>r_load hE rfl sc35 s.1) (fun a hE=>?_)
  refine d_read (i:=8) (v:=(x11_6 : Sl).v) #[true,true,true,true,false,true,true,true,true,false,false,false] rfl rfl hT (by kernel_rfl) hE rfl (wanted_none rfl) hs (fun w s=>r_load hE rfl sc35 s.2) (fun a hE=>?_)
  refine d_pureg (i:=9) (v:=.int .i64 (x11_6.len : Int)) #[true,true,true,true,false,true,true,true,true,true,false,false] rfl rfl hT (by kernel_rfl) hE rfl (wanted_none rfl) (fun w=>r_len hE rfl 5 un35) (fun a hE=>?_)
  obtain ⟨x7_7,qx7_7,H⟩:=H
  refine d_one (i:=4) (v:=.pointer x7_7) #[true,true,true,true,true,true,true,true,true,true,false,false] rfl rfl hT (by kernel_rfl) rfl hE hR rfl (wanted_none rfl) (r_uSD hE rfl qx7_7) ⟨rfl,rfl,rfl,Nat.le_refl _⟩ (fun w' e=>by rw [e]; exact hs) (fun a w hE hR hh hs=>?_)
  replace H:=M.at hh H; clear hh
  refine d_exl (i:=10) (fun x13_8=>.string x13_8) #[true,true,true,true,true,true,true,true,true,true,true,false] rfl rfl hT (by kernel_rfl) rfl hR (wanted_none rfl) (M.unbind H) (fun Q H=>uStr_run hE rfl rfl un165 co5 H) (fun x13_8 a w ea hR H=>?_)
  have hE:=Env.put_some hE rfl ea; clear ea
  refine d_pureg (i:=11) (v:=.string x13_8) #[true,true,true,true,true,true,true,true,true,true,true,true] rfl rfl hT (by kernel_rfl) hE rfl (wanted_none rfl) (fun w=>r_assign hE rfl) (fun a hE=>?_)
  refine d_done hT (by kernel_rfl) ?_
  refine hK_2 _ _ ?_
  refine w_ret ?_
  exact hret _ _ _ x13_8 _ hE hR (res_run hE rfl (RV.tmp rfl RV.nil)) rfl H

def value_quote_j1 (self1 : (Int) → M (ByteArray)) (c10_19 : Int) : M (ByteArray):=do
  self1 (IntKind.wrap .i64 (c10_19 + 1))
def value_quote_l1 (c3_10 : Addr) (c8_11 : Sl) (c9_12 : Int) (self1 : (Int) → M (ByteArray)) : (Int) → M (ByteArray):=fun s=>match s with
  | x10_9=>do
    M.ite (decide (x10_9 < c9_12)) (do
      let x12_21 ← ixL c8_11 x10_9 1
      let x13_22 ← ldI .u8 x12_21
      let x22_24 ← M.ite (decide (x13_22 < 32)) (do
        M.pure true
        ) (do
        M.pure (decide (x13_22 > 126))
        )
      M.ite x22_24 (do
        let x23_26 ← strings_Builder_WriteString (some c3_10) (⟨#[92,120]⟩ : ByteArray)
        let x27_28 ← strconv_FormatInt (IntKind.wrap .i64 (iShr .u8 x13_22 4)) 16
        let x28_29 ← strings_Builder_WriteString (some c3_10) x27_28
        let x32_30 ← strconv_FormatInt (IntKind.wrap .i64 (iAnd .u8 x13_22 15)) 16
        let x33_31 ← strings_Builder_WriteString (some c3_10) x32_30
        value_quote_j1 self1 x10_9
        ) (do
        let x40_33 ← M.ite (x13_22 == 39) (do
          M.pure true
          ) (do
          M.pure (x13_22 == 92)
          )
        M.ite x40_33 (do
          let x41_35 ← strings_Builder_WriteByte (some c3_10) 92
          let x43_36 ← strings_Builder_WriteByte (some c3_10) x13_22
          value_quote_j1 self1 x10_9
          ) (do
          let x15_37 ← strings_Builder_WriteByte (some c3_10) x13_22
          value_quote_j1 self1 x10_9
          )
        )
      ) (do
      let x45_39 ← strings_Builder_WriteByte (some c3_10) 39
      let x46_41 ← strings_Builder_String (some c3_10)
      M.pure x46_41
      )
def value_quote (x0 : ByteArray) : M (ByteArray):=do
  let x3_3 ← mkB ty_strings_Builder (#[.pointer none,.slice none 0 0] : Array Value)
  let x6_5 ← strings_Builder_WriteByte (some x3_3) 39
  let x8_8 ← s2b ty_uint8 x0
  M.loop (value_quote_l1 x3_3 x8_8 (x8_8.len : Int)) 0
theorem S_value_quote (x0 : ByteArray) : Sound Go.Proofs.Tryz.prog 133 #[.string x0] (fun (r : ByteArray)=>.string r) (value_quote x0):=by
  refine sound_of [(0,.string x0)] Go.Proofs.Tryz.func133 rfl rfl (Nat.le_of_ble_eq_true rfl) (args_of ⟨rfl,trivial⟩) (fun w0 w Q R a hret hE hR H=>?_)
  unfold value_quote at H
  refine w_seq (fun K hK_1=>?_)
  refine t_region ?_
  refine t_val (v:=.string ByteArray.empty) rfl rfl hE rfl (r_assign hE rfl) (fun a hE=>?_)
  refine t_nil ?_
  refine hK_1 _ _ ?_
  refine w_seq (fun K hK_2=>?_)
  refine t_region ?_
  obtain ⟨x3_3,qx3_3,H⟩:=H
  refine t_valh (v:=.pointer (some x3_3)) rfl rfl hE rfl hR (r_alloc zr109 qx3_3) (fun a w hE hR hh=>?_)
  replace H:=M.at hh H; clear hh
  refine t_nil ?_
  refine hK_2 _ _ ?_
  refine w_seq (fun K hK_4=>?_)
  refine t_region ?_
  refine t_call hE hR cl_strings_Builder_WriteByte rfl (S_strings_Builder_WriteByte (some x3_3) 39) (M.unbind H) (fun x6_5 a w ea hR H=>?_)
  have hE:=Env.put_some hE rfl ea; clear ea
  refine t_nil ?_
  refine hK_4 _ _ ?_
  refine w_seq (fun K hK_6=>?_)
  refine w_seq (fun K hK_7=>?_)
  refine t_region ?_
  refine t_val (v:=.string x0) rfl rfl hE rfl (r_move hE rfl) (fun a hE=>?_)
  refine t_ex (fun x8_8=>(x8_8 : Sl).v) rfl rfl hR (M.unbind H) (fun Q H=>s2b_run hE rfl un9 un35 un5 H) (fun x8_8 a w ea hR H=>?_)
  have hE:=Env.put_some hE rfl ea; clear ea
  refine t_val (v:=.int .i64 (x8_8.len : Int)) rfl rfl hE rfl (r_len hE rfl 5 un35) (fun a hE=>?_)
  refine t_val (v:=.int .i64 0) rfl rfl hE rfl (r_move hE rfl) (fun a hE=>?_)
  refine t_nil ?_
  refine hK_7 _ _ ?_
  refine w_block ?_
  refine l_loop (fun (s : Int)=>(⟨47,[]⟩ : Frm)) (fun (s : Int)=>[(3,.pointer (some x3_3)),(8,(x8_8 : Sl).v),(9,.int .i64 (x8_8.len : Int)),(10,.int .i64 s)]) H (hE.cut (.cons rfl (.cons rfl (.cons rfl (.cons rfl Subs.nil))))) hR (fun Y self1 hY_13 x10_9 a w hE hR H=>?_)
  replace hE : Env (⟨47,[]⟩ : Frm) a [(3,.pointer (some x3_3)),(8,(x8_8 : Sl).v),(9,.int .i64 (x8_8.len : Int)),(10,.int .i64 x10_9)]:=hE
  replace H : (value_quote_l1 x3_3 x8_8 (x8_8.len : Int) self1 x10_9).wp w.heap Q:=H
  unfold value_quote_l1 at H
  refine w_seq (fun K hK_14=>?_)
  refine t_region ?_
  refine t_val (v:=.bool (decide (x10_9 < (x8_8.len : Int)))) rfl rfl hE rfl (r_bin hE rfl rfl g_int b_lss) (fun a hE=>?_)
  refine t_nil ?_
  refine hK_14 _ _ ?_
  refine w_seq (fun K hK_15=>?_)
  refine w_cond (decide (x10_9 < (x8_8.len : Int))) hE rfl (fun hb=>?_) (fun hb=>?_)
  · replace H:=M.ite_t hb H
    refine w_skip ?_
    refine hK_15 _ _ ?_
    refine w_seq_join (fun a w=>Env (⟨47,[]⟩ : Frm) a [(3,.pointer (some x3_3)),(8,(x8_8 : Sl).v),(9,.int .i64 (x8_8.len : Int)),(10,.int .i64 x10_9)] ∧ Rest w0 w ∧ (value_quote_j1 self1 x10_9).wp w.heap Q) ?_ ?_
    · rintro a w ⟨hE,hR,H⟩
      unfold value_quote_j1 at H
      refine t_region ?_
      refine t_val (v:=.int .i64 (IntKind.wrap .i64 (x10_9 + 1))) rfl rfl hE rfl (r_bin hE rfl rfl g_int b_add) (fun a hE=>?_)
      refine t_val (v:=.int .i64 (IntKind.wrap .i64 (x10_9 + 1))) rfl rfl hE rfl (r_move hE rfl) (fun a hE=>?_)
      refine t_nil ?_
      exact hY_13 (IntKind.wrap .i64 (x10_9 + 1)) _ _ (hE.cut (.cons rfl (.cons rfl (.cons rfl (.cons rfl Subs.nil))))) hR H
    · skip
      refine w_block ?_
      refine w_seq (fun K hK_20=>?_)
      refine t_region ?_
      obtain ⟨x12_21,qx12_21,H⟩:=H
      refine t_val (v:=.pointer (some x12_21)) rfl rfl hE rfl (r_indexAddrL hE rfl rfl un35 sz5 qx12_21) (fun a hE=>?_)
      obtain ⟨x13_22,qx13_22,H⟩:=H
      refine t_val (v:=.int .u8 x13_22) rfl rfl hE rfl (r_load hE rfl sc5 qx13_22) (fun a hE=>?_)
      refine t_val (v:=.int .u8 x13_22) rfl rfl hE rfl (r_assign hE rfl) (fun a hE=>?_)
      refine t_nil ?_
      refine hK_20 _ _ ?_
      refine w_block ?_
      refine w_seq (fun K hK_23=>?_)
      refine t_region ?_
      refine t_val (v:=.int .u8 x13_22) rfl rfl hE rfl (r_move hE rfl) (fun a hE=>?_)
      refine t_val (v:=.bool (decide (x13_22 < 32))) rfl rfl hE rfl (r_bin hE rfl rfl g_int b_lss) (fun a hE=>?_)
      refine t_val (v:=.bool (decide (x13_22 < 32))) rfl rfl hE rfl (r_move hE rfl) (fun a hE=>?_)
      refine t_grp (n:=(⟨47,[]⟩ : Frm)) (w0:=w0) 3 (fun x22_24 : Bool=>[(3,.pointer (some x3_3)),(8,(x8_8 : Sl).v),(9,.int .i64 (x8_8.len : Int)),(10,.int .i64 x10_9),(5,.int .u8 x13_22),(22,.bool x22_24)]) (M.unbind H) (fun Kr hKr H=>?_) ?_
      · rcases bool_em (decide (x13_22 < 32)) with hb | hb
        · replace H:=M.ite_t hb H
          have hE:=hE.reb 19 (decide (x13_22 < 32)) true hb rfl
          refine t_off rfl hE rfl rfl rfl (fun a ea=>?_)
          have hE:=Env.put_some hE rfl ea; clear ea
          refine t_off rfl hE rfl rfl rfl (fun a ea=>?_)
          have hE:=Env.put_some hE rfl ea; clear ea
          refine t_val rfl rfl hE rfl (r_pick_t hE rfl rfl) (fun a hE=>?_)
          refine t_nil ?_
          exact hKr _ _ _ (hE.cut (.cons rfl (.cons rfl (.cons rfl (.cons rfl (.cons rfl (.cons rfl Subs.nil))))))) hR H
        · replace H:=M.ite_f hb H
          have hE:=hE.reb 19 (decide (x13_22 < 32)) false hb rfl
          refine t_on rfl hE rfl rfl rfl ?_
          refine t_val (v:=.int .u8 x13_22) rfl rfl hE rfl (r_move hE rfl) (fun a hE=>?_)
          refine t_on rfl hE rfl rfl rfl ?_
          refine t_val (v:=.bool (decide (x13_22 > 126))) rfl rfl hE rfl (r_bin hE rfl rfl g_int b_gtr) (fun a hE=>?_)
          refine t_val rfl rfl hE rfl (r_pick_f hE rfl rfl) (fun a hE=>?_)
          refine t_nil ?_
          exact hKr _ _ _ (hE.cut (.cons rfl (.cons rfl (.cons rfl (.cons rfl (.cons rfl (.cons rfl Subs.nil))))))) hR H
      · intro x22_24 a w hE hR H
        refine t_val (v:=.bool x22_24) rfl rfl hE rfl (r_assign hE rfl) (fun a hE=>?_)
        refine t_nil ?_
        refine hK_23 _ _ ?_
        refine w_cond x22_24 hE rfl (fun hb=>?_) (fun hb=>?_)
        · replace H:=M.ite_t hb H
          refine w_seq (fun K hK_25=>?_)
          refine t_region ?_
          refine t_call hE hR cl_strings_Builder_WriteString rfl (S_strings_Builder_WriteString (some x3_3) (⟨#[92,120]⟩ : ByteArray)) (M.unbind H) (fun x23_26 a w ea hR H=>?_)
          have hE:=Env.put_some hE rfl ea; clear ea
          refine t_nil ?_
          refine hK_25 _ _ ?_
          refine w_seq (fun K hK_27=>?_)
          refine t_region ?_
          refine t_val (v:=.int .u8 x13_22) rfl rfl hE rfl (r_move hE rfl) (fun a hE=>?_)
          refine t_val (v:=.int .u8 (iShr .u8 x13_22 4)) rfl rfl hE rfl (r_bin hE rfl rfl g_int (b_shr ⟨by decide,rfl⟩)) (fun a hE=>?_)
          refine t_val (v:=.int .i64 (IntKind.wrap .i64 (iShr .u8 x13_22 4))) rfl rfl hE rfl (r_convI hE rfl un5 un2) (fun a hE=>?_)
          refine t_call hE hR cl_strconv_FormatInt rfl (S_strconv_FormatInt (IntKind.wrap .i64 (iShr .u8 x13_22 4)) 16) (M.unbind H) (fun x27_28 a w ea hR H=>?_)
          have hE:=Env.put_some hE rfl ea; clear ea
          refine t_call hE hR cl_strings_Builder_WriteString rfl (S_strings_Builder_WriteString (some x3_3) x27_28) (M.unbind H) (fun x28_29 a w ea hR H=>?_)
          have hE:=Env.put_some hE rfl ea; clear ea
          refine t_nil ?_
          refine hK_27 _ _ ?_
          refine t_region ?_
          refine t_val (v:=.int .u8 x13_22) rfl rfl hE rfl (r_move hE rfl) (fun a hE=>?_)
          refine t_val (v:=.int .u8 (iAnd .u8 x13_22 15)) rfl rfl hE rfl (r_bin hE rfl rfl g_int b_and) (fun a hE=>?_)
          refine t_val (v:=.int .i64 (IntKind.wrap .i64 (iAnd .u8 x13_22 15))) rfl rfl hE rfl (r_convI hE rfl un5 un2) (fun a hE=>?_)
          refine t_call hE hR cl_strconv_FormatInt rfl (S_strconv_FormatInt (IntKind.wrap .i64 (iAnd .u8 x13_22 15)) 16) (M.unbind H) (fun x32_30 a w ea hR H=>?_)
          have hE:=Env.put_some hE rfl ea; clear ea
          refine t_call hE hR cl_strings_Builder_WriteString rfl (S_strings_Builder_WriteString (some x3_3) x32_30) (M.unbind H) (fun x33_31 a w ea hR H=>?_)
          have hE:=Env.put_some hE rfl ea; clear ea
          refine t_nil ?_
          exact ⟨hE.cut (.cons rfl (.cons rfl (.cons rfl (.cons rfl Subs.nil)))),hR,H⟩
        · replace H:=M.ite_f hb H
          refine w_seq (fun K hK_32=>?_)
          refine t_region ?_
          refine t_val (v:=.int .u8 x13_22) rfl rfl hE rfl (r_move hE rfl) (fun a hE=>?_)
          refine t_val (v:=.bool (x13_22 == 39)) rfl rfl hE rfl (r_bin hE rfl rfl g_int b_eql) (fun a hE=>?_)
          refine t_val (v:=.bool (x13_22 == 39)) rfl rfl hE rfl (r_move hE rfl) (fun a hE=>?_)
          refine t_grp (n:=(⟨47,[]⟩ : Frm)) (w0:=w0) 3 (fun x40_33 : Bool=>[(3,.pointer (some x3_3)),(8,(x8_8 : Sl).v),(9,.int .i64 (x8_8.len : Int)),(10,.int .i64 x10_9),(5,.int .u8 x13_22),(40,.bool x40_33)]) (M.unbind H) (fun Kr hKr H=>?_) ?_
          · rcases bool_em (x13_22 == 39) with hb | hb
            · replace H:=M.ite_t hb H
              have hE:=hE.reb 37 (x13_22 == 39) true hb rfl
              refine t_off rfl hE rfl rfl rfl (fun a ea=>?_)
              have hE:=Env.put_some hE rfl ea; clear ea
              refine t_off rfl hE rfl rfl rfl (fun a ea=>?_)
              have hE:=Env.put_some hE rfl ea; clear ea
              refine t_val rfl rfl hE rfl (r_pick_t hE rfl rfl) (fun a hE=>?_)
              refine t_nil ?_
              exact hKr _ _ _ (hE.cut (.cons rfl (.cons rfl (.cons rfl (.cons rfl (.cons rfl (.cons rfl Subs.nil))))))) hR H
            · replace H:=M.ite_f hb H
              have hE:=hE.reb 37 (x13_22 == 39) false hb rfl
              refine t_on rfl hE rfl rfl rfl ?_
              refine t_val (v:=.int .u8 x13_22) rfl rfl hE rfl (r_move hE rfl) (fun a hE=>?_)
              refine t_on rfl hE rfl rfl rfl ?_
              refine t_val (v:=.bool (x13_22 == 92)) rfl rfl hE rfl (r_bin hE rfl rfl g_int b_eql) (fun a hE=>?_)
              refine t_val rfl rfl hE rfl (r_pick_f hE rfl rfl) (fun a hE=>?_)
              refine t_nil ?_
              exact hKr _ _ _ (hE.cut (.cons rfl (.cons rfl (.cons rfl (.cons rfl (.cons rfl (.cons rfl Subs.nil))))))) hR H
          · intro x40_33 a w hE hR H
            refine t_val (v:=.bool x40_33) rfl rfl hE rfl (r_assign hE rfl) (fun a hE=>?_)
            refine t_nil ?_
            refine hK_32 _ _ ?_
            refine w_cond x40_33 hE rfl (fun hb=>?_) (fun hb=>?_)
            · replace H:=M.ite_t hb H
              refine w_seq (fun K hK_34=>?_)
              refine t_region ?_
              refine t_call hE hR cl_strings_Builder_WriteByte rfl (S_strings_Builder_WriteByte (some x3_3) 92) (M.unbind H) (fun x41_35 a w ea hR H=>?_)
              have hE:=Env.put_some hE rfl ea; clear ea
              refine t_nil ?_
              refine hK_34 _ _ ?_
              refine t_region ?_
              refine t_val (v:=.int .u8 x13_22) rfl rfl hE rfl (r_move hE rfl) (fun a hE=>?_)
              refine t_call hE hR cl_strings_Builder_WriteByte rfl (S_strings_Builder_WriteByte (some x3_3) x13_22) (M.unbind H) (fun x43_36 a w ea hR H=>?_)
              have hE:=Env.put_some hE rfl ea; clear ea
              refine t_nil ?_
              exact ⟨hE.cut (.cons rfl (.cons rfl (.cons rfl (.cons rfl Subs.nil)))),hR,H⟩
            · replace H:=M.ite_f hb H
              refine t_region ?_
              refine t_val (v:=.int .u8 x13_22) rfl rfl hE rfl (r_move hE rfl) (fun a hE=>?_)
              refine t_call hE hR cl_strings_Builder_WriteByte rfl (S_strings_Builder_WriteByte (some x3_3) x13_22) (M.unbind H) (fun x15_37 a w ea hR H=>?_)
              have hE:=Env.put_some hE rfl ea; clear ea
              refine t_nil ?_
              exact ⟨hE.cut (.cons rfl (.cons rfl (.cons rfl (.cons rfl Subs.nil)))),hR,H⟩
  · replace H:=M.ite_f hb H
    refine w_exit ?_
    refine Xu.same ?_
    refine hK_6 _ _ ?_
    refine w_seq (fun K hK_38=>?_)
    refine t_region ?_
    refine t_call hE hR cl_strings_Builder_WriteByte rfl (S_strings_Builder_WriteByte (some x3_3) 39) (M.unbind H) (fun x45_39 a w ea hR H=>?_)
    have hE:=Env.put_some hE rfl ea; clear ea
    refine t_nil ?_
    refine hK_38 _ _ ?_
    refine w_seq (fun K hK_40=>?_)
    refine t_region ?_
    refine t_call hE hR cl_strings_Builder_String rfl (S_strings_Builder_String (some x3_3)) (M.unbind H) (fun x46_41 a w ea hR H=>?_)
    have hE:=Env.put_some hE rfl ea; clear ea
    refine t_val (v:=.string x46_41) rfl rfl hE rfl (r_assign hE rfl) (fun a hE=>?_)
    refine t_nil ?_
    refine hK_40 _ _ ?_
    refine w_ret ?_
    exact hret _ _ _ x46_41 _ hE hR (res_run hE rfl (RV.tmp rfl RV.nil)) rfl H

noncomputable def ro219_0 : Array Oper:=opsOf Go.Proofs.Tryz.f219 0
def tE219_0 : List (List Nat):=[[],[0],[1],[2],[3],[4],[],[5,6],[7],[],[9],[10],[11],[12],[8,13],[14,8,0,1,2,3,4,5,6,7,8,9,10,11,12,13,14]]
def tC219_0 : List (List Nat):=[[],[0],[1],[2],[3],[4],[],[5,6],[7],[],[9],[10],[11],[12],[8,13],[14]]
def tW219_0 : List (List Nat):=[[],[0],[0,1],[0,1,2],[0,1,2,3],[0,1,2,3,4],[],[0,1,2,3,4,5,6],[0,1,2,3,4,5,6,7],[],[9],[9,10],[9,10,11],[9,10,11,12],[0,1,2,3,4,5,6,7,8,9,10,11,12,13],[0,1,2,3,4,5,6,7,8,9,10,11,12,13,14]]
theorem tb219_0 : tabAt Go.Proofs.Tryz.f219 0 tE219_0 tC219_0 tW219_0 = true:=by kernel_rfl
theorem tb219_0m : tabMB 16 tE219_0 tC219_0 tW219_0 [0,1,2,4,8,16,0,96,128,0,512,1024,2048,4096,8448,32767] [0,1,2,4,8,16,0,96,128,0,512,1024,2048,4096,8448,16384] [0,1,3,7,15,31,0,127,255,0,512,1536,3584,7680,16383,32767] = true:=by kernel_rfl
def strings_Builder_grow (x0 : Option Addr) (x1 : Int) : M (Unit):=do
  let x6_2 ← nilP x0
  let x15_3 ← nilP x0
  let x8_4 ← ldL ((x6_2).add 1)
  let x17_5 ← ldL ((x15_3).add 1)
  let x13_6 ← mnz ty_uint8 (IntKind.wrap .i64 ((IntKind.wrap .i64 (2 * (x8_4.cap : Int))) + x1))
  chk (fun h : Heap=>(hcell h ((x6_2).add 1) = some ((x8_4 : Sl).v)) ∧ (hcell h ((x15_3).add 1) = some ((x17_5 : Sl).v)))
  let x19_7 ← slL x13_6 0 (x17_5.len : Int) 1
  let x22_9 ← nilP x0
  let x24_10 ← ldL ((x22_9).add 1)
  let x25_11 ← cpL 1 x19_7 x24_10
  let x28_12 ← nilP x0
  stV ((x28_12).add 1) ((x19_7 : Sl).v)
  M.pure ()
theorem S_strings_Builder_grow (x0 : Option Addr) (x1 : Int) : Sound Go.Proofs.Tryz.prog 219 #[.pointer x0,.int .i64 x1] (fun (r : Unit)=>.tuple #[]) (strings_Builder_grow x0 x1):=by
  refine sound_of [(0,.pointer x0),(1,.int .i64 x1)] Go.Proofs.Tryz.func219 rfl rfl (Nat.le_of_ble_eq_true rfl) (args_of ⟨rfl,rfl,trivial⟩) (fun w0 w Q R a hret hE hR H=>?_)
  unfold strings_Builder_grow at H
  refine w_seq (fun K hK_1=>?_)
  obtain ⟨x6_2,qx6_2,H⟩:=H
  obtain ⟨x15_3,qx15_3,H⟩:=H
  obtain ⟨x8_4,qx8_4,H⟩:=H
  obtain ⟨x17_5,qx17_5,H⟩:=H
  refine reg_eq (rops:=ro219_0) (by kernel_rfl) ?_
  have hT : Tab ro219_0 _ _ _:=tab_of tb219_0 rfl (by kernel_rfl)
  have hM:=TabM.of tb219_0m
  refine d_start (m:=16) (fun w : World=>(fun h : Heap=>(hcell h ((x6_2).add 1) = some ((x8_4 : Sl).v)) ∧ (hcell h ((x15_3).add 1) = some ((x17_5 : Sl).v))) w.heap) [14,15] (unb 16 0) mo hR (by kernel_rfl) (by kernel_rfl) (fun w' e=>by rw [e]; exact ⟨qx8_4,qx17_5⟩) (fun w hh hR hs=>?_)
  replace H:=M.at hh H; clear hh
  refine d_pureg (i:=0) (v:=.pointer x0) (unb 16 1) rfl rfl hT (anyM hM (by kernel_rfl)) hE rfl (wanted_none rfl) (fun w=>r_move hE rfl) (fun a hE=>?_)
  refine d_pureg (i:=1) (v:=.pointer (some x6_2)) (unb 16 3) rfl rfl hT (anyM hM (by kernel_rfl)) hE rfl (wanted_none rfl) (fun w=>r_nilCheck hE (hx_eq rfl (congrArg Value.pointer qx6_2))) (fun a hE=>?_)
  refine d_pureg (i:=2) (v:=.pointer (some ((x6_2).add 1))) (unb 16 7) rfl rfl hT (anyM hM (by kernel_rfl)) hE rfl (wanted_none rfl) (fun w=>r_fieldAddr hE rfl fd109_1) (fun a hE=>?_)
  refine d_pureg (i:=6) (v:=.int .i64 x1) (unb 16 71) rfl rfl hT (anyM hM (by kernel_rfl)) hE rfl (wanted_none rfl) (fun w=>r_move hE rfl) (fun a hE=>?_)
  refine d_pureg (i:=9) (v:=.pointer x0) (unb 16 583) rfl rfl hT (anyM hM (by kernel_rfl)) hE rfl (wanted_none rfl) (fun w=>r_move hE rfl) (fun a hE=>?_)
  refine d_pureg (i:=10) (v:=.pointer (some x15_3)) (unb 16 1607) rfl rfl hT (anyM hM (by kernel_rfl)) hE rfl (wanted_none rfl) (fun w=>r_nilCheck hE (hx_eq rfl (congrArg Value.pointer qx15_3))) (fun a hE=>?_)
  refine d_pureg (i:=11) (v:=.pointer (some ((x15_3).add 1))) (unb 16 3655) rfl rfl hT (anyM hM (by kernel_rfl)) hE rfl (wanted_none rfl) (fun w=>r_fieldAddr hE rfl fd109_1) (fun a hE=>?_)
  refine d_read (i:=3) (v:=(x8_4 : Sl).v) (unb 16 3663) rfl rfl hT (takeM hM (by kernel_rfl)) hE rfl (wanted_none rfl) hs (fun w s=>r_load hE rfl sc35 s.1) (fun a hE=>?_)
  refine d_pureg (i:=4) (v:=.int .i64 (x8_4.cap : Int)) (unb 16 3679) rfl rfl hT (anyM hM (by kernel_rfl)) hE rfl (wanted_none rfl) (fun w=>r_cap hE rfl 5 un35) (fun a hE=>?_)
  refine d_pureg (i:=5) (v:=.int .i64 (IntKind.wrap .i64 (2 * (x8_4.cap : Int)))) (unb 16 3711) rfl rfl hT (anyM hM (by kernel_rfl)) hE rfl (wanted_none rfl) (fun w=>r_bin hE rfl rfl g_int b_mul) (fun a hE=>?_)
  refine d_pureg (i:=7) (v:=.int .i64 (IntKind.wrap .i64 ((IntKind.wrap .i64 (2 * (x8_4.cap : Int))) + x1))) (unb 16 3839) rfl rfl hT (anyM hM (by kernel_rfl)) hE rfl (wanted_none rfl) (fun w=>r_bin hE rfl rfl g_int b_add) (fun a hE=>?_)
  refine d_read (i:=12) (v:=(x17_5 : Sl).v) (unb 16 7935) rfl rfl hT (takeM hM (by kernel_rfl)) hE rfl (wanted_none rfl) hs (fun w s=>r_load hE rfl sc35 s.2) (fun a hE=>?_)
  refine d_pureg (i:=13) (v:=.int .i64 (x17_5.len : Int)) (unb 16 16127) rfl rfl hT (anyM hM (by kernel_rfl)) hE rfl (wanted_none rfl) (fun w=>r_len hE rfl 5 un35) (fun a hE=>?_)
  refine d_ex (i:=8) (fun x13_6=>(x13_6 : Sl).v) (unb 16 16383) rfl rfl hT (oneM hM (by kernel_rfl)) rfl hR (wanted_none rfl) (M.unbind H) (fun Q H=>mnz_run (ps:=#[3]) hE rfl Go.Proofs.Tryz.func243 (by kernel_rfl) (by kernel_rfl) (by kernel_rfl) (by kernel_rfl) un35 H) (fun r h H w' e=>by obtain ⟨_,sA,H⟩:=H; rw [e]; exact sA) (fun x13_6 a w ea hR H hs=>?_)
  obtain ⟨_,sA,H⟩:=H; clear sA
  have hE:=Env.put_some hE rfl ea; clear ea
  obtain ⟨x19_7,qx19_7,H⟩:=H
  refine d_pureg (i:=14) (v:=(x19_7 : Sl).v) (unb 16 32767) rfl rfl hT (anyM hM (by kernel_rfl)) hE rfl (wanted_none rfl) (fun w=>r_sliceL_h hE rfl rfl un35 sz5 qx19_7) (fun a hE=>?_)
  refine d_pureg (i:=15) (v:=(x19_7 : Sl).v) (unb 16 65535) rfl rfl hT (anyM hM (by kernel_rfl)) hE rfl (wanted_none rfl) (fun w=>r_assign hE rfl) (fun a hE=>?_)
  refine d_done hT (doneM hM (by kernel_rfl)) ?_
  refine hK_1 _ _ ?_
  refine w_seq (fun K hK_8=>?_)
  refine t_region ?_
  refine t_val (v:=(x19_7 : Sl).v) rfl rfl hE rfl (r_move hE rfl) (fun a hE=>?_)
  refine t_val (v:=.pointer x0) rfl rfl hE rfl (r_move hE rfl) (fun a hE=>?_)
  obtain ⟨x22_9,qx22_9,H⟩:=H
  refine t_val (v:=.pointer (some x22_9)) rfl rfl hE rfl (r_nilCheck hE (hx_eq rfl (congrArg Value.pointer qx22_9))) (fun a hE=>?_)
  refine t_val (v:=.pointer (some ((x22_9).add 1))) rfl rfl hE rfl (r_fieldAddr hE rfl fd109_1) (fun a hE=>?_)
  obtain ⟨x24_10,qx24_10,H⟩:=H
  refine t_val (v:=(x24_10 : Sl).v) rfl rfl hE rfl (r_load hE rfl sc35 qx24_10) (fun a hE=>?_)
  refine t_ex (fun x25_11=>.int .i64 x25_11) rfl rfl hR (M.unbind H) (fun Q H=>cp_run hE rfl rfl un35 sz5 H) (fun x25_11 a w ea hR H=>?_)
  have hE:=Env.put_some hE rfl ea; clear ea
  refine t_nil ?_
  refine hK_8 _ _ ?_
  refine t_region ?_
  refine t_val (v:=.pointer x0) rfl rfl hE rfl (r_move hE rfl) (fun a hE=>?_)
  refine t_val (v:=(x19_7 : Sl).v) rfl rfl hE rfl (r_move hE rfl) (fun a hE=>?_)
  obtain ⟨x28_12,qx28_12,H⟩:=H
  refine t_val (v:=.pointer (some x28_12)) rfl rfl hE rfl (r_nilCheck hE (hx_eq rfl (congrArg Value.pointer qx28_12))) (fun a hE=>?_)
  refine t_val (v:=.pointer (some ((x28_12).add 1))) rfl rfl hE rfl (r_fieldAddr hE rfl fd109_1) (fun a hE=>?_)
  obtain ⟨u_13,qu_13,H⟩:=H
  refine t_sth rfl rfl hE hR (r_store hE rfl rfl sz35 qu_13) (fun a w hE hR hh=>?_)
  replace H:=M.at hh H; clear hh
  refine t_nil ?_
  exact hret _ _ _ () _ hE hR (res_run hE rfl RV.nil) rfl H

theorem tb177_3 : tabAt Go.Proofs.Tryz.f177 3 [[],[0],[1],[2],[3],[],[5],[6],[7],[8],[4,9],[],[10,11]] [[],[0],[1],[2],[3],[],[5],[6],[7],[8],[4,9],[],[10,11]] [[],[0],[0,1],[0,1,2],[0,1,2,3],[],[5],[5,6],[5,6,7],[5,6,7,8],[0,1,2,3,4,5,6,7,8,9],[],[0,1,2,3,4,5,6,7,8,9,10,11]] = true:=by kernel_rfl
def strings_Builder_Grow (x0 : Option Addr) (x1 : Int) : M (Unit):=do
  let x5_2 ← strings_Builder_copyCheck x0
  M.ite (decide (x1 < 0)) (do
    M.fail
    ) (do
    let x10_6 ← nilP x0
    let x15_7 ← nilP x0
    let x12_8 ← ldL ((x10_6).add 1)
    let x17_9 ← ldL ((x15_7).add 1)
    M.ite (decide ((IntKind.wrap .i64 ((x12_8.cap : Int) - (x17_9.len : Int))) < x1)) (do
      let x24_10 ← strings_Builder_grow x0 x1
      M.pure ()
      ) (do
      M.pure ()
      )
    )
theorem S_strings_Builder_Grow (x0 : Option Addr) (x1 : Int) : Sound Go.Proofs.Tryz.prog 177 #[.pointer x0,.int .i64 x1] (fun (r : Unit)=>.tuple #[]) (strings_Builder_Grow x0 x1):=by
  refine sound_of [(0,.pointer x0),(1,.int .i64 x1)] Go.Proofs.Tryz.func177 rfl rfl (Nat.le_of_ble_eq_true rfl) (args_of ⟨rfl,rfl,trivial⟩) (fun w0 w Q R a hret hE hR H=>?_)
  unfold strings_Builder_Grow at H
  refine w_seq (fun K hK_1=>?_)
  refine t_region ?_
  refine t_val (v:=.pointer x0) rfl rfl hE rfl (r_move hE rfl) (fun a hE=>?_)
  refine t_call hE hR cl_strings_Builder_copyCheck rfl (S_strings_Builder_copyCheck x0) (M.unbind H) (fun x5_2 a w ea hR H=>?_)
  have hE:=Env.put_some hE rfl ea; clear ea
  refine t_nil ?_
  refine hK_1 _ _ ?_
  refine w_seq (fun K hK_3=>?_)
  refine w_seq (fun K hK_4=>?_)
  refine t_region ?_
  refine t_val (v:=.int .i64 x1) rfl rfl hE rfl (r_move hE rfl) (fun a hE=>?_)
  refine t_val (v:=.bool (decide (x1 < 0))) rfl rfl hE rfl (r_bin hE rfl rfl g_int b_lss) (fun a hE=>?_)
  refine t_nil ?_
  refine hK_4 _ _ ?_
  refine w_cond (decide (x1 < 0)) hE rfl (fun hb=>?_) (fun hb=>?_)
  · replace H:=M.ite_t hb H
    exact False.elim H
  · replace H:=M.ite_f hb H
    refine w_skip ?_
    refine hK_3 _ _ ?_
    refine w_seq (fun K hK_5=>?_)
    obtain ⟨x10_6,qx10_6,H⟩:=H
    obtain ⟨x15_7,qx15_7,H⟩:=H
    obtain ⟨x12_8,qx12_8,H⟩:=H
    obtain ⟨x17_9,qx17_9,H⟩:=H
    have hT:=tab_of tb177_3 rfl rfl
    refine d_start (fun w : World=>(fun h : Heap=>(hcell h ((x10_6).add 1) = some ((x12_8 : Sl).v)) ∧ (hcell h ((x15_7).add 1) = some ((x17_9 : Sl).v))) w.heap) [10,12] #[false,false,false,false,false,false,false,false,false,false,false,false,false] mo hR rfl rfl (fun w' e=>by rw [e]; exact ⟨qx12_8,qx17_9⟩) (fun w hh hR hs=>?_)
    replace H:=M.at hh H; clear hh
    refine d_pureg (i:=0) (v:=.pointer x0) #[true,false,false,false,false,false,false,false,false,false,false,false,false] rfl rfl hT (by kernel_rfl) hE rfl (wanted_none rfl) (fun w=>r_move hE rfl) (fun a hE=>?_)
    refine d_pureg (i:=1) (v:=.pointer (some x10_6)) #[true,true,false,false,false,false,false,false,false,false,false,false,false] rfl rfl hT (by kernel_rfl) hE rfl (wanted_none rfl) (fun w=>r_nilCheck hE (hx_eq rfl (congrArg Value.pointer qx10_6))) (fun a hE=>?_)
    refine d_pureg (i:=2) (v:=.pointer (some ((x10_6).add 1))) #[true,true,true,false,false,false,false,false,false,false,false,false,false] rfl rfl hT (by kernel_rfl) hE rfl (wanted_none rfl) (fun w=>r_fieldAddr hE rfl fd109_1) (fun a hE=>?_)
    refine d_pureg (i:=5) (v:=.pointer x0) #[true,true,true,false,false,true,false,false,false,false,false,false,false] rfl rfl hT (by kernel_rfl) hE rfl (wanted_none rfl) (fun w=>r_move hE rfl) (fun a hE=>?_)
    refine d_pureg (i:=6) (v:=.pointer (some x15_7)) #[true,true,true,false,false,true,true,false,false,false,false,false,false] rfl rfl hT (by kernel_rfl) hE rfl (wanted_none rfl) (fun w=>r_nilCheck hE (hx_eq rfl (congrArg Value.pointer qx15_7))) (fun a hE=>?_)
    refine d_pureg (i:=7) (v:=.pointer (some ((x15_7).add 1))) #[true,true,true,false,false,true,true,true,false,false,false,false,false] rfl rfl hT (by kernel_rfl) hE rfl (wanted_none rfl) (fun w=>r_fieldAddr hE rfl fd109_1) (fun a hE=>?_)
    refine d_pureg (i:=11) (v:=.int .i64 x1) #[true,true,true,false,false,true,true,true,false,false,false,true,false] rfl rfl hT (by kernel_rfl) hE rfl (wanted_none rfl) (fun w=>r_move hE rfl) (fun a hE=>?_)
    refine d_read (i:=3) (v:=(x12_8 : Sl).v) #[true,true,true,true,false,true,true,true,false,false,false,true,false] rfl rfl hT (by kernel_rfl) hE rfl (wanted_none rfl) hs (fun w s=>r_load hE rfl sc35 s.1) (fun a hE=>?_)
    refine d_pureg (i:=4) (v:=.int .i64 (x12_8.cap : Int)) #[true,true,true,true,true,true,true,true,false,false,false,true,false] rfl rfl hT (by kernel_rfl) hE rfl (wanted_none rfl) (fun w=>r_cap hE rfl 5 un35) (fun a hE=>?_)
    refine d_read (i:=8) (v:=(x17_9 : Sl).v) #[true,true,true,true,true,true,true,true,true,false,false,true,false] rfl rfl hT (by kernel_rfl) hE rfl (wanted_none rfl) hs (fun w s=>r_load hE rfl sc35 s.2) (fun a hE=>?_)
    refine d_pureg (i:=9) (v:=.int .i64 (x17_9.len : Int)) #[true,true,true,true,true,true,true,true,true,true,false,true,false] rfl rfl hT (by kernel_rfl) hE rfl (wanted_none rfl) (fun w=>r_len hE rfl 5 un35) (fun a hE=>?_)
    refine d_pureg (i:=10) (v:=.int .i64 (IntKind.wrap .i64 ((x12_8.cap : Int) - (x17_9.len : Int)))) #[true,true,true,true,true,true,true,true,true,true,true,true,false] rfl rfl hT (by kernel_rfl) hE rfl (wanted_none rfl) (fun w=>r_bin hE rfl rfl g_int b_sub) (fun a hE=>?_)
    refine d_pureg (i:=12) (v:=.bool (decide ((IntKind.wrap .i64 ((x12_8.cap : Int) - (x17_9.len : Int))) < x1))) #[true,true,true,true,true,true,true,true,true,true,true,true,true] rfl rfl hT (by kernel_rfl) hE rfl (wanted_none rfl) (fun w=>r_bin hE rfl rfl g_int b_lss) (fun a hE=>?_)
    refine d_done hT (by kernel_rfl) ?_
    refine hK_5 _ _ ?_
    refine w_cond (decide ((IntKind.wrap .i64 ((x12_8.cap : Int) - (x17_9.len : Int))) < x1)) hE rfl (fun hb=>?_) (fun hb=>?_)
    · replace H:=M.ite_t hb H
      refine t_region ?_
      refine t_val (v:=.pointer x0) rfl rfl hE rfl (r_move hE rfl) (fun a hE=>?_)
      refine t_val (v:=.int .i64 x1) rfl rfl hE rfl (r_move hE rfl) (fun a hE=>?_)
      refine t_call hE hR cl_strings_Builder_grow rfl (S_strings_Builder_grow x0 x1) (M.unbind H) (fun x24_10 a w ea hR H=>?_)
      have hE:=Env.put_some hE rfl ea; clear ea
      refine t_nil ?_
      exact hret _ _ _ () _ hE hR (res_run hE rfl RV.nil) rfl H
    · replace H:=M.ite_f hb H
      refine w_skip ?_
      exact hret _ _ _ () _ hE hR (res_run hE rfl RV.nil) rfl H

end Gx
namespace Gx
open Go
set_option linter.unusedVariables false
set_option maxRecDepth 100000
def strings_Join_l2 (c1_43 : ByteArray) (c8_44 : Addr) (c63_45 : Sl) (c64_46 : Int) (self2 : (Int) → M (ByteArray)) : (Int) → M (ByteArray):=fun s=>match s with
  | x65_42=>do
    M.ite (decide (x65_42 < c64_46)) (do
      let x67_52 ← ixL c63_45 x65_42 1
      let x68_53 ← ldS x67_52
      let x70_55 ← strings_Builder_WriteString (some c8_44) c1_43
      let x72_56 ← strings_Builder_WriteString (some c8_44) x68_53
      self2 (IntKind.wrap .i64 (x65_42 + 1))
      ) (do
      let x74_58 ← strings_Builder_String (some c8_44)
      M.pure x74_58
      )
def strings_Join_l1 (c0_18 : Sl) (c1_19 : ByteArray) (c39_20 : Sl) (c40_21 : Int) (self1 : (Int × Int) → M (ByteArray)) : (Int × Int) → M (ByteArray):=fun s=>match s with
  | (x5_16,x41_17)=>do
    M.ite (decide (x41_17 < c40_21)) (do
      let x43_27 ← ixL c39_20 x41_17 1
      let x44_28 ← ldS x43_27
      M.ite (decide ((x44_28.size : Int) > (IntKind.wrap .i64 (9223372036854775807 - x5_16)))) (do
        M.fail
        ) (do
        self1 (IntKind.wrap .i64 (x5_16 + (x44_28.size : Int)),IntKind.wrap .i64 (x41_17 + 1))
        )
      ) (do
      let x8_32 ← mkB ty_strings_Builder (#[.pointer none,.slice none 0 0] : Array Value)
      let x57_34 ← strings_Builder_Grow (some x8_32) x5_16
      let x59_36 ← ixL c0_18 0 1
      let x60_37 ← ldS x59_36
      let x61_38 ← strings_Builder_WriteString (some x8_32) x60_37
      let x63_41 ← slL c0_18 1 c0_18.len 1
      M.loop (strings_Join_l2 c1_19 x8_32 x63_41 (x63_41.len : Int)) 0
      )
def strings_Join_j1 (c0_12 : Sl) (c1_13 : ByteArray) (x5_11 : Int) : M (ByteArray):=do
  M.loop (strings_Join_l1 c0_12 c1_13 c0_12 (c0_12.len : Int)) (x5_11,0)
def strings_Join (x0 : Sl) (x1 : ByteArray) : M (ByteArray):=do
  M.ite ((x0.len : Int) == 0) (do
    M.pure ByteArray.empty
    ) (do
    M.ite ((x0.len : Int) == 1) (do
      let x18_8 ← ixL x0 0 1
      let x19_9 ← ldS x18_8
      M.pure x19_9
      ) (do
      M.ite (decide ((x1.size : Int) > 0)) (do
        let x28_62 ← pQuo .i64 9223372036854775807 (IntKind.wrap .i64 ((x0.len : Int) - 1))
        M.ite (decide ((x1.size : Int) ≥ x28_62)) (do
          M.fail
          ) (do
          strings_Join_j1 x0 x1 (IntKind.wrap .i64 (0 + (IntKind.wrap .i64 ((x1.size : Int) * (IntKind.wrap .i64 ((x0.len : Int) - 1))))))
          )
        ) (do
        strings_Join_j1 x0 x1 0
        )
      )
    )
theorem S_strings_Join (x0 : Sl) (x1 : ByteArray) : Sound Go.Proofs.Tryz.prog 134 #[(x0 : Sl).v,.string x1] (fun (r : ByteArray)=>.string r) (strings_Join x0 x1):=by
  refine sound_of [(0,(x0 : Sl).v),(1,.string x1)] Go.Proofs.Tryz.func134 rfl rfl (Nat.le_of_ble_eq_true rfl) (args_of ⟨rfl,rfl,trivial⟩) (fun w0 w Q R a hret hE hR H=>?_)
  unfold strings_Join at H
  refine w_seq (fun K hK_1=>?_)
  refine t_region ?_
  refine t_val (v:=.string ByteArray.empty) rfl rfl hE rfl (r_assign hE rfl) (fun a hE=>?_)
  refine t_nil ?_
  refine hK_1 _ _ ?_
  refine w_seq (fun K hK_2=>?_)
  refine w_seq (fun K hK_3=>?_)
  refine t_region ?_
  refine t_val (v:=(x0 : Sl).v) rfl rfl hE rfl (r_move hE rfl) (fun a hE=>?_)
  refine t_val (v:=.int .i64 (x0.len : Int)) rfl rfl hE rfl (r_len hE rfl 9 un118) (fun a hE=>?_)
  refine t_nil ?_
  refine hK_3 _ _ ?_
  refine w_block ?_
  refine w_seq (fun K hK_4=>?_)
  refine t_region ?_
  refine t_val (v:=.bool ((x0.len : Int) == 0)) rfl rfl hE rfl (r_bin hE rfl rfl g_int b_eql) (fun a hE=>?_)
  refine t_val (v:=.bool ((x0.len : Int) == 0)) rfl rfl hE rfl (r_assign hE rfl) (fun a hE=>?_)
  refine t_nil ?_
  refine hK_4 _ _ ?_
  refine w_cond ((x0.len : Int) == 0) hE rfl (fun hb=>?_) (fun hb=>?_)
  · replace H:=M.ite_t hb H
    refine w_seq (fun K hK_5=>?_)
    refine t_region ?_
    refine t_val (v:=.string ByteArray.empty) rfl rfl hE rfl (r_assign hE rfl) (fun a hE=>?_)
    refine t_nil ?_
    refine hK_5 _ _ ?_
    refine w_ret ?_
    exact hret _ _ _ ByteArray.empty _ hE hR (res_run hE rfl (RV.tmp rfl RV.nil)) rfl H
  · replace H:=M.ite_f hb H
    refine w_seq (fun K hK_6=>?_)
    refine t_region ?_
    refine t_val (v:=.bool ((x0.len : Int) == 1)) rfl rfl hE rfl (r_bin hE rfl rfl g_int b_eql) (fun a hE=>?_)
    refine t_val (v:=.bool ((x0.len : Int) == 1)) rfl rfl hE rfl (r_assign hE rfl) (fun a hE=>?_)
    refine t_nil ?_
    refine hK_6 _ _ ?_
    refine w_cond ((x0.len : Int) == 1) hE rfl (fun hb=>?_) (fun hb=>?_)
    · replace H:=M.ite_t hb H
      refine w_seq (fun K hK_7=>?_)
      refine t_region ?_
      refine t_val (v:=(x0 : Sl).v) rfl rfl hE rfl (r_move hE rfl) (fun a hE=>?_)
      obtain ⟨x18_8,qx18_8,H⟩:=H
      refine t_val (v:=.pointer (some x18_8)) rfl rfl hE rfl (r_indexAddrL hE rfl rfl un118 sz9 qx18_8) (fun a hE=>?_)
      obtain ⟨x19_9,qx19_9,H⟩:=H
      refine t_val (v:=.string x19_9) rfl rfl hE rfl (r_load hE rfl sc9 qx19_9) (fun a hE=>?_)
      refine t_val (v:=.string x19_9) rfl rfl hE rfl (r_assign hE rfl) (fun a hE=>?_)
      refine t_nil ?_
      refine hK_7 _ _ ?_
      refine w_ret ?_
      exact hret _ _ _ x19_9 _ hE hR (res_run hE rfl (RV.tmp rfl RV.nil)) rfl H
    · replace H:=M.ite_f hb H
      refine w_skip ?_
      refine hK_2 _ _ ?_
      refine w_seq (fun K hK_10=>?_)
      refine t_region ?_
      refine t_val (v:=.int .i64 0) rfl rfl hE rfl (r_assign hE rfl) (fun a hE=>?_)
      refine t_nil ?_
      refine hK_10 _ _ ?_
      refine w_seq_join (fun a w=>∃ (x5_11 : Int),Env (⟨75,[]⟩ : Frm) a [(0,(x0 : Sl).v),(1,.string x1),(5,.int .i64 x5_11)] ∧ Rest w0 w ∧ (strings_Join_j1 x0 x1 x5_11).wp w.heap Q) ?_ ?_
      · rintro a w ⟨x5_11,hE,hR,H⟩
        unfold strings_Join_j1 at H
        refine w_seq (fun K hK_14=>?_)
        refine w_seq (fun K hK_15=>?_)
        refine t_region ?_
        refine t_val (v:=(x0 : Sl).v) rfl rfl hE rfl (r_move hE rfl) (fun a hE=>?_)
        refine t_val (v:=.int .i64 (x0.len : Int)) rfl rfl hE rfl (r_len hE rfl 9 un118) (fun a hE=>?_)
        refine t_val (v:=.int .i64 0) rfl rfl hE rfl (r_move hE rfl) (fun a hE=>?_)
        refine t_nil ?_
        refine hK_15 _ _ ?_
        refine w_block ?_
        refine l_loop (fun (s : Int × Int)=>(⟨75,[]⟩ : Frm)) (fun (s : Int × Int)=>[(0,(x0 : Sl).v),(1,.string x1),(5,.int .i64 s.1),(39,(x0 : Sl).v),(40,.int .i64 (x0.len : Int)),(41,.int .i64 s.2)]) H (hE.cut (.cons rfl (.cons rfl (.cons rfl (.cons rfl (.cons rfl (.cons rfl Subs.nil))))))) hR (fun Y self1 hY_22 s a w hE hR H=>?_)
        rcases s with ⟨x5_16,x41_17⟩
        replace hE : Env (⟨75,[]⟩ : Frm) a [(0,(x0 : Sl).v),(1,.string x1),(5,.int .i64 x5_16),(39,(x0 : Sl).v),(40,.int .i64 (x0.len : Int)),(41,.int .i64 x41_17)]:=hE
        replace H : (strings_Join_l1 x0 x1 x0 (x0.len : Int) self1 (x5_16,x41_17)).wp w.heap Q:=H
        unfold strings_Join_l1 at H
        refine w_seq (fun K hK_23=>?_)
        refine t_region ?_
        refine t_val (v:=.bool (decide (x41_17 < (x0.len : Int)))) rfl rfl hE rfl (r_bin hE rfl rfl g_int b_lss) (fun a hE=>?_)
        refine t_nil ?_
        refine hK_23 _ _ ?_
        refine w_seq (fun K hK_24=>?_)
        refine w_cond (decide (x41_17 < (x0.len : Int))) hE rfl (fun hb=>?_) (fun hb=>?_)
        · replace H:=M.ite_t hb H
          refine w_skip ?_
          refine hK_24 _ _ ?_
          refine w_seq (fun K hK_25=>?_)
          refine w_block ?_
          refine w_seq (fun K hK_26=>?_)
          refine t_region ?_
          obtain ⟨x43_27,qx43_27,H⟩:=H
          refine t_val (v:=.pointer (some x43_27)) rfl rfl hE rfl (r_indexAddrL hE rfl rfl un118 sz9 qx43_27) (fun a hE=>?_)
          obtain ⟨x44_28,qx44_28,H⟩:=H
          refine t_val (v:=.string x44_28) rfl rfl hE rfl (r_load hE rfl sc9 qx44_28) (fun a hE=>?_)
          refine t_val (v:=.string x44_28) rfl rfl hE rfl (r_assign hE rfl) (fun a hE=>?_)
          refine t_nil ?_
          refine hK_26 _ _ ?_
          refine w_seq (fun K hK_29=>?_)
          refine w_seq (fun K hK_30=>?_)
          refine t_region ?_
          refine t_val (v:=.string x44_28) rfl rfl hE rfl (r_move hE rfl) (fun a hE=>?_)
          refine t_val (v:=.int .i64 (x44_28.size : Int)) rfl rfl hE rfl (r_lenS hE rfl un9) (fun a hE=>?_)
          refine t_val (v:=.int .i64 x5_16) rfl rfl hE rfl (r_move hE rfl) (fun a hE=>?_)
          refine t_val (v:=.int .i64 (IntKind.wrap .i64 (9223372036854775807 - x5_16))) rfl rfl hE rfl (r_bin hE rfl rfl g_int b_sub) (fun a hE=>?_)
          refine t_val (v:=.bool (decide ((x44_28.size : Int) > (IntKind.wrap .i64 (9223372036854775807 - x5_16))))) rfl rfl hE rfl (r_bin hE rfl rfl g_int b_gtr) (fun a hE=>?_)
          refine t_nil ?_
          refine hK_30 _ _ ?_
          refine w_cond (decide ((x44_28.size : Int) > (IntKind.wrap .i64 (9223372036854775807 - x5_16)))) hE rfl (fun hb=>?_) (fun hb=>?_)
          · replace H:=M.ite_t hb H
            exact False.elim H
          · replace H:=M.ite_f hb H
            refine w_skip ?_
            refine hK_29 _ _ ?_
            refine t_region ?_
            refine t_val (v:=.int .i64 x5_16) rfl rfl hE rfl (r_move hE rfl) (fun a hE=>?_)
            refine t_val (v:=.string x44_28) rfl rfl hE rfl (r_move hE rfl) (fun a hE=>?_)
            refine t_val (v:=.int .i64 (x44_28.size : Int)) rfl rfl hE rfl (r_lenS hE rfl un9) (fun a hE=>?_)
            refine t_val (v:=.int .i64 (IntKind.wrap .i64 (x5_16 + (x44_28.size : Int)))) rfl rfl hE rfl (r_bin hE rfl rfl g_int b_add) (fun a hE=>?_)
            refine t_val (v:=.int .i64 (IntKind.wrap .i64 (x5_16 + (x44_28.size : Int)))) rfl rfl hE rfl (r_assign hE rfl) (fun a hE=>?_)
            refine t_nil ?_
            refine hK_25 _ _ ?_
            refine t_region ?_
            refine t_val (v:=.int .i64 (IntKind.wrap .i64 (x41_17 + 1))) rfl rfl hE rfl (r_bin hE rfl rfl g_int b_add) (fun a hE=>?_)
            refine t_val (v:=.int .i64 (IntKind.wrap .i64 (x41_17 + 1))) rfl rfl hE rfl (r_move hE rfl) (fun a hE=>?_)
            refine t_nil ?_
            exact hY_22 (IntKind.wrap .i64 (x5_16 + (x44_28.size : Int)),IntKind.wrap .i64 (x41_17 + 1)) _ _ (hE.cut (.cons rfl (.cons rfl (.cons rfl (.cons rfl (.cons rfl (.cons rfl Subs.nil))))))) hR H
        · replace H:=M.ite_f hb H
          refine w_exit ?_
          refine Xu.same ?_
          refine hK_14 _ _ ?_
          refine w_seq (fun K hK_31=>?_)
          refine t_region ?_
          obtain ⟨x8_32,qx8_32,H⟩:=H
          refine t_valh (v:=.pointer (some x8_32)) rfl rfl hE rfl hR (r_alloc zr109 qx8_32) (fun a w hE hR hh=>?_)
          replace H:=M.at hh H; clear hh
          refine t_nil ?_
          refine hK_31 _ _ ?_
          refine w_seq (fun K hK_33=>?_)
          refine t_region ?_
          refine t_val (v:=.int .i64 x5_16) rfl rfl hE rfl (r_move hE rfl) (fun a hE=>?_)
          refine t_call hE hR cl_strings_Builder_Grow rfl (S_strings_Builder_Grow (some x8_32) x5_16) (M.unbind H) (fun x57_34 a w ea hR H=>?_)
          have hE:=Env.put_some hE rfl ea; clear ea
          refine t_nil ?_
          refine hK_33 _ _ ?_
          refine w_seq (fun K hK_35=>?_)
          refine t_region ?_
          refine t_val (v:=(x0 : Sl).v) rfl rfl hE rfl (r_move hE rfl) (fun a hE=>?_)
          obtain ⟨x59_36,qx59_36,H⟩:=H
          refine t_val (v:=.pointer (some x59_36)) rfl rfl hE rfl (r_indexAddrL hE rfl rfl un118 sz9 qx59_36) (fun a hE=>?_)
          obtain ⟨x60_37,qx60_37,H⟩:=H
          refine t_val (v:=.string x60_37) rfl rfl hE rfl (r_load hE rfl sc9 qx60_37) (fun a hE=>?_)
          refine t_call hE hR cl_strings_Builder_WriteString rfl (S_strings_Builder_WriteString (some x8_32) x60_37) (M.unbind H) (fun x61_38 a w ea hR H=>?_)
          have hE:=Env.put_some hE rfl ea; clear ea
          refine t_nil ?_
          refine hK_35 _ _ ?_
          refine w_seq (fun K hK_39=>?_)
          refine w_seq (fun K hK_40=>?_)
          refine t_region ?_
          refine t_val (v:=(x0 : Sl).v) rfl rfl hE rfl (r_move hE rfl) (fun a hE=>?_)
          obtain ⟨x63_41,qx63_41,H⟩:=H
          refine t_val (v:=(x63_41 : Sl).v) rfl rfl hE rfl (r_sliceL_l hE rfl rfl un118 sz9 qx63_41) (fun a hE=>?_)
          refine t_val (v:=.int .i64 (x63_41.len : Int)) rfl rfl hE rfl (r_len hE rfl 9 un118) (fun a hE=>?_)
          refine t_val (v:=.int .i64 0) rfl rfl hE rfl (r_move hE rfl) (fun a hE=>?_)
          refine t_nil ?_
          refine hK_40 _ _ ?_
          refine w_block ?_
          refine l_loop (fun (s : Int)=>(⟨75,[]⟩ : Frm)) (fun (s : Int)=>[(1,.string x1),(8,.pointer (some x8_32)),(63,(x63_41 : Sl).v),(64,.int .i64 (x63_41.len : Int)),(65,.int .i64 s)]) H (hE.cut (.cons rfl (.cons rfl (.cons rfl (.cons rfl (.cons rfl Subs.nil)))))) hR (fun Y self2 hY_47 x65_42 a w hE hR H=>?_)
          replace hE : Env (⟨75,[]⟩ : Frm) a [(1,.string x1),(8,.pointer (some x8_32)),(63,(x63_41 : Sl).v),(64,.int .i64 (x63_41.len : Int)),(65,.int .i64 x65_42)]:=hE
          replace H : (strings_Join_l2 x1 x8_32 x63_41 (x63_41.len : Int) self2 x65_42).wp w.heap Q:=H
          unfold strings_Join_l2 at H
          refine w_seq (fun K hK_48=>?_)
          refine t_region ?_
          refine t_val (v:=.bool (decide (x65_42 < (x63_41.len : Int)))) rfl rfl hE rfl (r_bin hE rfl rfl g_int b_lss) (fun a hE=>?_)
          refine t_nil ?_
          refine hK_48 _ _ ?_
          refine w_seq (fun K hK_49=>?_)
          refine w_cond (decide (x65_42 < (x63_41.len : Int))) hE rfl (fun hb=>?_) (fun hb=>?_)
          · replace H:=M.ite_t hb H
            refine w_skip ?_
            refine hK_49 _ _ ?_
            refine w_seq (fun K hK_50=>?_)
            refine w_block ?_
            refine w_seq (fun K hK_51=>?_)
            refine t_region ?_
            obtain ⟨x67_52,qx67_52,H⟩:=H
            refine t_val (v:=.pointer (some x67_52)) rfl rfl hE rfl (r_indexAddrL hE rfl rfl un118 sz9 qx67_52) (fun a hE=>?_)
            obtain ⟨x68_53,qx68_53,H⟩:=H
            refine t_val (v:=.string x68_53) rfl rfl hE rfl (r_load hE rfl sc9 qx68_53) (fun a hE=>?_)
            refine t_val (v:=.string x68_53) rfl rfl hE rfl (r_assign hE rfl) (fun a hE=>?_)
            refine t_nil ?_
            refine hK_51 _ _ ?_
            refine w_seq (fun K hK_54=>?_)
            refine t_region ?_
            refine t_val (v:=.string x1) rfl rfl hE rfl (r_move hE rfl) (fun a hE=>?_)
            refine t_call hE hR cl_strings_Builder_WriteString rfl (S_strings_Builder_WriteString (some x8_32) x1) (M.unbind H) (fun x70_55 a w ea hR H=>?_)
            have hE:=Env.put_some hE rfl ea; clear ea
            refine t_nil ?_
            refine hK_54 _ _ ?_
            refine t_region ?_
            refine t_val (v:=.string x68_53) rfl rfl hE rfl (r_move hE rfl) (fun a hE=>?_)
            refine t_call hE hR cl_strings_Builder_WriteString rfl (S_strings_Builder_WriteString (some x8_32) x68_53) (M.unbind H) (fun x72_56 a w ea hR H=>?_)
            have hE:=Env.put_some hE rfl ea; clear ea
            refine t_nil ?_
            refine hK_50 _ _ ?_
            refine t_region ?_
            refine t_val (v:=.int .i64 (IntKind.wrap .i64 (x65_42 + 1))) rfl rfl hE rfl (r_bin hE rfl rfl g_int b_add) (fun a hE=>?_)
            refine t_val (v:=.int .i64 (IntKind.wrap .i64 (x65_42 + 1))) rfl rfl hE rfl (r_move hE rfl) (fun a hE=>?_)
            refine t_nil ?_
            exact hY_47 (IntKind.wrap .i64 (x65_42 + 1)) _ _ (hE.cut (.cons rfl (.cons rfl (.cons rfl (.cons rfl (.cons rfl Subs.nil)))))) hR H
          · replace H:=M.ite_f hb H
            refine w_exit ?_
            refine Xu.same ?_
            refine hK_39 _ _ ?_
            refine w_seq (fun K hK_57=>?_)
            refine t_region ?_
            refine t_call hE hR cl_strings_Builder_String rfl (S_strings_Builder_String (some x8_32)) (M.unbind H) (fun x74_58 a w ea hR H=>?_)
            have hE:=Env.put_some hE rfl ea; clear ea
            refine t_val (v:=.string x74_58) rfl rfl hE rfl (r_assign hE rfl) (fun a hE=>?_)
            refine t_nil ?_
            refine hK_57 _ _ ?_
            refine w_ret ?_
            exact hret _ _ _ x74_58 _ hE hR (res_run hE rfl (RV.tmp rfl RV.nil)) rfl H
      · skip
        refine w_seq (fun K hK_59=>?_)
        refine t_region ?_
        refine t_val (v:=.string x1) rfl rfl hE rfl (r_move hE rfl) (fun a hE=>?_)
        refine t_val (v:=.int .i64 (x1.size : Int)) rfl rfl hE rfl (r_lenS hE rfl un9) (fun a hE=>?_)
        refine t_val (v:=.bool (decide ((x1.size : Int) > 0))) rfl rfl hE rfl (r_bin hE rfl rfl g_int b_gtr) (fun a hE=>?_)
        refine t_nil ?_
        refine hK_59 _ _ ?_
        refine w_cond (decide ((x1.size : Int) > 0)) hE rfl (fun hb=>?_) (fun hb=>?_)
        · replace H:=M.ite_t hb H
          refine w_seq (fun K hK_60=>?_)
          refine w_seq (fun K hK_61=>?_)
          refine t_region ?_
          refine t_val (v:=.string x1) rfl rfl hE rfl (r_move hE rfl) (fun a hE=>?_)
          refine t_val (v:=.int .i64 (x1.size : Int)) rfl rfl hE rfl (r_lenS hE rfl un9) (fun a hE=>?_)
          refine t_val (v:=(x0 : Sl).v) rfl rfl hE rfl (r_move hE rfl) (fun a hE=>?_)
          refine t_val (v:=.int .i64 (x0.len : Int)) rfl rfl hE rfl (r_len hE rfl 9 un118) (fun a hE=>?_)
          refine t_val (v:=.int .i64 (IntKind.wrap .i64 ((x0.len : Int) - 1))) rfl rfl hE rfl (r_bin hE rfl rfl g_int b_sub) (fun a hE=>?_)
          obtain ⟨x28_62,qx28_62,H⟩:=H
          refine t_val (v:=.int .i64 x28_62) rfl rfl hE rfl (r_bin hE rfl rfl g_int (b_quo qx28_62)) (fun a hE=>?_)
          refine t_val (v:=.bool (decide ((x1.size : Int) ≥ x28_62))) rfl rfl hE rfl (r_bin hE rfl rfl g_int b_geq) (fun a hE=>?_)
          refine t_nil ?_
          refine hK_61 _ _ ?_
          refine w_cond (decide ((x1.size : Int) ≥ x28_62)) hE rfl (fun hb=>?_) (fun hb=>?_)
          · replace H:=M.ite_t hb H
            exact False.elim H
          · replace H:=M.ite_f hb H
            refine w_skip ?_
            refine hK_60 _ _ ?_
            refine t_region ?_
            refine t_val (v:=.int .i64 0) rfl rfl hE rfl (r_move hE rfl) (fun a hE=>?_)
            refine t_val (v:=.string x1) rfl rfl hE rfl (r_move hE rfl) (fun a hE=>?_)
            refine t_val (v:=.int .i64 (x1.size : Int)) rfl rfl hE rfl (r_lenS hE rfl un9) (fun a hE=>?_)
            refine t_val (v:=(x0 : Sl).v) rfl rfl hE rfl (r_move hE rfl) (fun a hE=>?_)
            refine t_val (v:=.int .i64 (x0.len : Int)) rfl rfl hE rfl (r_len hE rfl 9 un118) (fun a hE=>?_)
            refine t_val (v:=.int .i64 (IntKind.wrap .i64 ((x0.len : Int) - 1))) rfl rfl hE rfl (r_bin hE rfl rfl g_int b_sub) (fun a hE=>?_)
            refine t_val (v:=.int .i64 (IntKind.wrap .i64 ((x1.size : Int) * (IntKind.wrap .i64 ((x0.len : Int) - 1))))) rfl rfl hE rfl (r_bin hE rfl rfl g_int b_mul) (fun a hE=>?_)
            refine t_val (v:=.int .i64 (IntKind.wrap .i64 (0 + (IntKind.wrap .i64 ((x1.size : Int) * (IntKind.wrap .i64 ((x0.len : Int) - 1))))))) rfl rfl hE rfl (r_bin hE rfl rfl g_int b_add) (fun a hE=>?_)
            refine t_val (v:=.int .i64 (IntKind.wrap .i64 (0 + (IntKind.wrap .i64 ((x1.size : Int) * (IntKind.wrap .i64 ((x0.len : Int) - 1))))))) rfl rfl hE rfl (r_assign hE rfl) (fun a hE=>?_)
            refine t_nil ?_
            exact ⟨IntKind.wrap .i64 (0 + (IntKind.wrap .i64 ((x1.size : Int) * (IntKind.wrap .i64 ((x0.len : Int) - 1))))),hE.cut (.cons rfl (.cons rfl (.cons rfl Subs.nil))),hR,H⟩
        · replace H:=M.ite_f hb H
          refine w_skip ?_
          exact ⟨0,hE.cut (.cons rfl (.cons rfl (.cons rfl Subs.nil))),hR,H⟩

def value_text_j2 (self1 : (Sl × Int) → M (ByteArray)) (c49_56 : Int) (x5_51 : Sl) : M (ByteArray):=do
  self1 (x5_51,IntKind.wrap .i64 (c49_56 + 1))
def value_text_l1 (c1_44 : Int) (c2_45 : Addr) (c47_46 : Sl) (c48_47 : Int) (self1 : (Sl × Int) → M (ByteArray)) : (Sl × Int) → M (ByteArray):=fun s=>match s with
  | (x5_42,x49_43)=>do
    M.ite (decide (x49_43 < c48_47)) (do
      let x52_58 ← ixL c47_46 x49_43 4
      let x53_59 ← ldG 4 x52_58
      let x7_60 ← mkB ty_api_Value (#[.int .i64 0,.int .i64 0,.string ByteArray.empty,.slice none 0 0] : Array Value)
      M.need (x53_59.size = 4)
      stG x7_60 x53_59
      let x54_63 ← ldG 4 x7_60
      let x57_64 ← callF Go.Proofs.Tryz.prog fn_value_text #[.agg x54_63,.int .i64 (IntKind.wrap .i64 (c1_44 + 1))] (fun r : ByteArray=>.string r)
      let x59_66 ← ldI .i64 ((c2_45).add 0)
      let x65_67 ← M.ite (x59_66 == 5) (do
        M.pure ((Int.tmod x49_43 2) == 1)
        ) (do
        M.pure false
        )
      M.ite x65_67 (do
        let x70_68 ← ixL x5_42 (IntKind.wrap .i64 ((x5_42.len : Int) - 1)) 1
        let x71_69 ← ldS x70_68
        let x73_70 ← sCat (⟨#[58,32]⟩ : ByteArray) x57_64
        let x74_71 ← sCat x71_69 x73_70
        let x75_72 ← ixL x5_42 (IntKind.wrap .i64 ((x5_42.len : Int) - 1)) 1
        stV x75_72 (.string x74_71)
        value_text_j2 self1 x49_43 x5_42
        ) (do
        let x78_74 ← bdL ty_string 1 #[.string x57_64]
        let x79_75 ← apL ty_string 1 16 (#[.string ByteArray.empty] : Array Value) x5_42 x78_74
        value_text_j2 self1 x49_43 x79_75
        )
      ) (do
      let x82_77 ← strings_Join x5_42 (⟨#[44,32]⟩ : ByteArray)
      let x84_80 ← ldI .i64 ((c2_45).add 0)
      M.ite (x84_80 == 5) (do
        let x87_82 ← sCat (⟨#[123]⟩ : ByteArray) x82_77
        let x88_83 ← sCat x87_82 (⟨#[125]⟩ : ByteArray)
        M.pure x88_83
        ) (do
        let x90_85 ← sCat (⟨#[91]⟩ : ByteArray) x82_77
        let x91_86 ← sCat x90_85 (⟨#[93]⟩ : ByteArray)
        M.pure x91_86
        )
      )
def value_text_j1 (c1_36 : Int) (c2_37 : Addr) (x43_35 : Bool) : M (ByteArray):=do
  M.ite x43_35 (do
    let x47_41 ← ldL ((c2_37).add 3)
    M.loop (value_text_l1 c1_36 c2_37 x47_41 (x47_41.len : Int)) (Sl.nil,0)
    ) (do
    M.pure (⟨#[63]⟩ : ByteArray)
    )
def value_text (x0 : Array Value) (x1 : Int) : M (ByteArray):=do
  let x2_2 ← mkB ty_api_Value x0
  M.ite (decide (x1 > 8)) (do
    M.pure (⟨#[63]⟩ : ByteArray)
    ) (do
    let x13_8 ← ldI .i64 ((x2_2).add 0)
    M.ite (x13_8 == 1) (do
      let x17_11 ← ldI .i64 ((x2_2).add 1)
      let x18_12 ← num_Text x17_11
      M.pure x18_12
      ) (do
      M.ite (x13_8 == 2) (do
        let x22_15 ← ldS ((x2_2).add 2)
        let x23_16 ← value_quote x22_15
        M.pure x23_16
        ) (do
        M.ite (x13_8 == 3) (do
          let x27_20 ← ldI .i64 ((x2_2).add 1)
          M.ite (x27_20 == 1) (do
            M.pure (⟨#[116,114,117,101]⟩ : ByteArray)
            ) (do
            M.pure (⟨#[102,97,108,115,101]⟩ : ByteArray)
            )
          ) (do
          M.ite (x13_8 == 6) (do
            let x32_25 ← ldI .i64 ((x2_2).add 1)
            let x33_26 ← num_Text x32_25
            let x34_27 ← sCat (⟨#[118,91]⟩ : ByteArray) x33_26
            let x35_28 ← sCat x34_27 (⟨#[93]⟩ : ByteArray)
            M.pure x35_28
            ) (do
            M.ite (x13_8 == 7) (do
              let x39_31 ← ldI .i64 ((x2_2).add 1)
              let x40_32 ← num_Text x39_31
              let x41_33 ← sCat (⟨#[101,91]⟩ : ByteArray) x40_32
              let x42_34 ← sCat x41_33 (⟨#[93]⟩ : ByteArray)
              M.pure x42_34
              ) (do
              M.ite (x13_8 == 4) (do
                value_text_j1 x1 x2_2 (x13_8 == 4)
                ) (do
                value_text_j1 x1 x2_2 (x13_8 == 5)
                )
              )
            )
          )
        )
      )
    )
theorem S_value_text (x0 : Array Value) (x1 : Int) : Sound Go.Proofs.Tryz.prog 76 #[.agg x0,.int .i64 x1] (fun (r : ByteArray)=>.string r) (value_text x0 x1):=by
  refine sound_of [(0,.agg x0),(1,.int .i64 x1)] Go.Proofs.Tryz.func76 rfl rfl (Nat.le_of_ble_eq_true rfl) (args_of ⟨rfl,rfl,trivial⟩) (fun w0 w Q R a hret hE hR H=>?_)
  unfold value_text at H
  refine w_seq (fun K hK_1=>?_)
  refine t_region ?_
  obtain ⟨x2_2,qx2_2,H⟩:=H
  refine t_valh (v:=.pointer (some x2_2)) rfl rfl hE rfl hR (r_box hE rfl qx2_2) (fun a w hE hR hh=>?_)
  replace H:=M.at hh H; clear hh
  refine t_val (v:=.string ByteArray.empty) rfl rfl hE rfl (r_assign hE rfl) (fun a hE=>?_)
  refine t_nil ?_
  refine hK_1 _ _ ?_
  refine w_seq (fun K hK_3=>?_)
  refine w_seq (fun K hK_4=>?_)
  refine t_region ?_
  refine t_val (v:=.int .i64 x1) rfl rfl hE rfl (r_move hE rfl) (fun a hE=>?_)
  refine t_val (v:=.bool (decide (x1 > 8))) rfl rfl hE rfl (r_bin hE rfl rfl g_int b_gtr) (fun a hE=>?_)
  refine t_nil ?_
  refine hK_4 _ _ ?_
  refine w_cond (decide (x1 > 8)) hE rfl (fun hb=>?_) (fun hb=>?_)
  · replace H:=M.ite_t hb H
    refine w_seq (fun K hK_5=>?_)
    refine t_region ?_
    refine t_val (v:=.string (⟨#[63]⟩ : ByteArray)) rfl rfl hE rfl (r_assign hE rfl) (fun a hE=>?_)
    refine t_nil ?_
    refine hK_5 _ _ ?_
    refine w_ret ?_
    exact hret _ _ _ (⟨#[63]⟩ : ByteArray) _ hE hR (res_run hE rfl (RV.tmp rfl RV.nil)) rfl H
  · replace H:=M.ite_f hb H
    refine w_skip ?_
    refine hK_3 _ _ ?_
    refine w_seq (fun K hK_6=>?_)
    refine w_seq (fun K hK_7=>?_)
    refine t_region ?_
    refine t_val (v:=.pointer (some ((x2_2).add 0))) rfl rfl hE rfl (r_fieldAddr hE rfl fd24_0) (fun a hE=>?_)
    obtain ⟨x13_8,qx13_8,H⟩:=H
    refine t_val (v:=.int .i64 x13_8) rfl rfl hE rfl (r_load hE rfl sc3 qx13_8) (fun a hE=>?_)
    refine t_nil ?_
    refine hK_7 _ _ ?_
    refine w_block ?_
    refine w_seq (fun K hK_9=>?_)
    refine t_region ?_
    refine t_val (v:=.bool (x13_8 == 1)) rfl rfl hE rfl (r_bin hE rfl rfl g_int b_eql) (fun a hE=>?_)
    refine t_val (v:=.bool (x13_8 == 1)) rfl rfl hE rfl (r_assign hE rfl) (fun a hE=>?_)
    refine t_nil ?_
    refine hK_9 _ _ ?_
    refine w_cond (x13_8 == 1) hE rfl (fun hb=>?_) (fun hb=>?_)
    · replace H:=M.ite_t hb H
      refine w_seq (fun K hK_10=>?_)
      refine t_region ?_
      refine t_val (v:=.pointer (some ((x2_2).add 1))) rfl rfl hE rfl (r_fieldAddr hE rfl fd24_1) (fun a hE=>?_)
      obtain ⟨x17_11,qx17_11,H⟩:=H
      refine t_val (v:=.int .i64 x17_11) rfl rfl hE rfl (r_load hE rfl sc2 qx17_11) (fun a hE=>?_)
      refine t_call hE hR cl_num_Text rfl (S_num_Text x17_11) (M.unbind H) (fun x18_12 a w ea hR H=>?_)
      have hE:=Env.put_some hE rfl ea; clear ea
      refine t_val (v:=.string x18_12) rfl rfl hE rfl (r_assign hE rfl) (fun a hE=>?_)
      refine t_nil ?_
      refine hK_10 _ _ ?_
      refine w_ret ?_
      exact hret _ _ _ x18_12 _ hE hR (res_run hE rfl (RV.tmp rfl RV.nil)) rfl H
    · replace H:=M.ite_f hb H
      refine w_seq (fun K hK_13=>?_)
      refine t_region ?_
      refine t_val (v:=.bool (x13_8 == 2)) rfl rfl hE rfl (r_bin hE rfl rfl g_int b_eql) (fun a hE=>?_)
      refine t_val (v:=.bool (x13_8 == 2)) rfl rfl hE rfl (r_assign hE rfl) (fun a hE=>?_)
      refine t_nil ?_
      refine hK_13 _ _ ?_
      refine w_cond (x13_8 == 2) hE rfl (fun hb=>?_) (fun hb=>?_)
      · replace H:=M.ite_t hb H
        refine w_seq (fun K hK_14=>?_)
        refine t_region ?_
        refine t_val (v:=.pointer (some ((x2_2).add 2))) rfl rfl hE rfl (r_fieldAddr hE rfl fd24_2) (fun a hE=>?_)
        obtain ⟨x22_15,qx22_15,H⟩:=H
        refine t_val (v:=.string x22_15) rfl rfl hE rfl (r_load hE rfl sc9 qx22_15) (fun a hE=>?_)
        refine t_call hE hR cl_value_quote rfl (S_value_quote x22_15) (M.unbind H) (fun x23_16 a w ea hR H=>?_)
        have hE:=Env.put_some hE rfl ea; clear ea
        refine t_val (v:=.string x23_16) rfl rfl hE rfl (r_assign hE rfl) (fun a hE=>?_)
        refine t_nil ?_
        refine hK_14 _ _ ?_
        refine w_ret ?_
        exact hret _ _ _ x23_16 _ hE hR (res_run hE rfl (RV.tmp rfl RV.nil)) rfl H
      · replace H:=M.ite_f hb H
        refine w_seq (fun K hK_17=>?_)
        refine t_region ?_
        refine t_val (v:=.bool (x13_8 == 3)) rfl rfl hE rfl (r_bin hE rfl rfl g_int b_eql) (fun a hE=>?_)
        refine t_val (v:=.bool (x13_8 == 3)) rfl rfl hE rfl (r_assign hE rfl) (fun a hE=>?_)
        refine t_nil ?_
        refine hK_17 _ _ ?_
        refine w_cond (x13_8 == 3) hE rfl (fun hb=>?_) (fun hb=>?_)
        · replace H:=M.ite_t hb H
          refine w_seq (fun K hK_18=>?_)
          refine w_seq (fun K hK_19=>?_)
          refine t_region ?_
          refine t_val (v:=.pointer (some ((x2_2).add 1))) rfl rfl hE rfl (r_fieldAddr hE rfl fd24_1) (fun a hE=>?_)
          obtain ⟨x27_20,qx27_20,H⟩:=H
          refine t_val (v:=.int .i64 x27_20) rfl rfl hE rfl (r_load hE rfl sc2 qx27_20) (fun a hE=>?_)
          refine t_val (v:=.bool (x27_20 == 1)) rfl rfl hE rfl (r_bin hE rfl rfl g_int b_eql) (fun a hE=>?_)
          refine t_nil ?_
          refine hK_19 _ _ ?_
          refine w_cond (x27_20 == 1) hE rfl (fun hb=>?_) (fun hb=>?_)
          · replace H:=M.ite_t hb H
            refine w_seq (fun K hK_21=>?_)
            refine t_region ?_
            refine t_val (v:=.string (⟨#[116,114,117,101]⟩ : ByteArray)) rfl rfl hE rfl (r_assign hE rfl) (fun a hE=>?_)
            refine t_nil ?_
            refine hK_21 _ _ ?_
            refine w_ret ?_
            exact hret _ _ _ (⟨#[116,114,117,101]⟩ : ByteArray) _ hE hR (res_run hE rfl (RV.tmp rfl RV.nil)) rfl H
          · replace H:=M.ite_f hb H
            refine w_skip ?_
            refine hK_18 _ _ ?_
            refine w_seq (fun K hK_22=>?_)
            refine t_region ?_
            refine t_val (v:=.string (⟨#[102,97,108,115,101]⟩ : ByteArray)) rfl rfl hE rfl (r_assign hE rfl) (fun a hE=>?_)
            refine t_nil ?_
            refine hK_22 _ _ ?_
            refine w_ret ?_
            exact hret _ _ _ (⟨#[102,97,108,115,101]⟩ : ByteArray) _ hE hR (res_run hE rfl (RV.tmp rfl RV.nil)) rfl H
        · replace H:=M.ite_f hb H
          refine w_seq (fun K hK_23=>?_)
          refine t_region ?_
          refine t_val (v:=.bool (x13_8 == 6)) rfl rfl hE rfl (r_bin hE rfl rfl g_int b_eql) (fun a hE=>?_)
          refine t_val (v:=.bool (x13_8 == 6)) rfl rfl hE rfl (r_assign hE rfl) (fun a hE=>?_)
          refine t_nil ?_
          refine hK_23 _ _ ?_
          refine w_cond (x13_8 == 6) hE rfl (fun hb=>?_) (fun hb=>?_)
          · replace H:=M.ite_t hb H
            refine w_seq (fun K hK_24=>?_)
            refine t_region ?_
            refine t_val (v:=.pointer (some ((x2_2).add 1))) rfl rfl hE rfl (r_fieldAddr hE rfl fd24_1) (fun a hE=>?_)
            obtain ⟨x32_25,qx32_25,H⟩:=H
            refine t_val (v:=.int .i64 x32_25) rfl rfl hE rfl (r_load hE rfl sc2 qx32_25) (fun a hE=>?_)
            refine t_call hE hR cl_num_Text rfl (S_num_Text x32_25) (M.unbind H) (fun x33_26 a w ea hR H=>?_)
            have hE:=Env.put_some hE rfl ea; clear ea
            obtain ⟨x34_27,qx34_27,H⟩:=H
            refine t_val (v:=.string x34_27) rfl rfl hE rfl (r_bin hE rfl rfl g_str (b_addS qx34_27)) (fun a hE=>?_)
            obtain ⟨x35_28,qx35_28,H⟩:=H
            refine t_val (v:=.string x35_28) rfl rfl hE rfl (r_bin hE rfl rfl g_str (b_addS qx35_28)) (fun a hE=>?_)
            refine t_val (v:=.string x35_28) rfl rfl hE rfl (r_assign hE rfl) (fun a hE=>?_)
            refine t_nil ?_
            refine hK_24 _ _ ?_
            refine w_ret ?_
            exact hret _ _ _ x35_28 _ hE hR (res_run hE rfl (RV.tmp rfl RV.nil)) rfl H
          · replace H:=M.ite_f hb H
            refine w_seq (fun K hK_29=>?_)
            refine t_region ?_
            refine t_val (v:=.bool (x13_8 == 7)) rfl rfl hE rfl (r_bin hE rfl rfl g_int b_eql) (fun a hE=>?_)
            refine t_val (v:=.bool (x13_8 == 7)) rfl rfl hE rfl (r_assign hE rfl) (fun a hE=>?_)
            refine t_nil ?_
            refine hK_29 _ _ ?_
            refine w_cond (x13_8 == 7) hE rfl (fun hb=>?_) (fun hb=>?_)
            · replace H:=M.ite_t hb H
              refine w_seq (fun K hK_30=>?_)
              refine t_region ?_
              refine t_val (v:=.pointer (some ((x2_2).add 1))) rfl rfl hE rfl (r_fieldAddr hE rfl fd24_1) (fun a hE=>?_)
              obtain ⟨x39_31,qx39_31,H⟩:=H
              refine t_val (v:=.int .i64 x39_31) rfl rfl hE rfl (r_load hE rfl sc2 qx39_31) (fun a hE=>?_)
              refine t_call hE hR cl_num_Text rfl (S_num_Text x39_31) (M.unbind H) (fun x40_32 a w ea hR H=>?_)
              have hE:=Env.put_some hE rfl ea; clear ea
              obtain ⟨x41_33,qx41_33,H⟩:=H
              refine t_val (v:=.string x41_33) rfl rfl hE rfl (r_bin hE rfl rfl g_str (b_addS qx41_33)) (fun a hE=>?_)
              obtain ⟨x42_34,qx42_34,H⟩:=H
              refine t_val (v:=.string x42_34) rfl rfl hE rfl (r_bin hE rfl rfl g_str (b_addS qx42_34)) (fun a hE=>?_)
              refine t_val (v:=.string x42_34) rfl rfl hE rfl (r_assign hE rfl) (fun a hE=>?_)
              refine t_nil ?_
              refine hK_30 _ _ ?_
              refine w_ret ?_
              exact hret _ _ _ x42_34 _ hE hR (res_run hE rfl (RV.tmp rfl RV.nil)) rfl H
            · replace H:=M.ite_f hb H
              refine w_seq_join (fun a w=>∃ (x43_35 : Bool),Env (⟨92,[]⟩ : Frm) a [(1,.int .i64 x1),(2,.pointer (some x2_2)),(43,.bool x43_35)] ∧ Rest w0 w ∧ (value_text_j1 x1 x2_2 x43_35).wp w.heap Q) ?_ ?_
              · rintro a w ⟨x43_35,hE,hR,H⟩
                unfold value_text_j1 at H
                refine w_cond x43_35 hE rfl (fun hb=>?_) (fun hb=>?_)
                · replace H:=M.ite_t hb H
                  refine w_skip ?_
                  refine hK_6 _ _ ?_
                  refine w_seq (fun K hK_38=>?_)
                  refine t_region ?_
                  refine t_val (v:=(Sl.nil : Sl).v) rfl rfl hE rfl (r_assign hE rfl) (fun a hE=>?_)
                  refine t_nil ?_
                  refine hK_38 _ _ ?_
                  refine w_seq (fun K hK_39=>?_)
                  refine w_seq (fun K hK_40=>?_)
                  refine t_region ?_
                  refine t_val (v:=.pointer (some ((x2_2).add 3))) rfl rfl hE rfl (r_fieldAddr hE rfl fd24_3) (fun a hE=>?_)
                  obtain ⟨x47_41,qx47_41,H⟩:=H
                  refine t_val (v:=(x47_41 : Sl).v) rfl rfl hE rfl (r_load hE rfl sc22 qx47_41) (fun a hE=>?_)
                  refine t_val (v:=.int .i64 (x47_41.len : Int)) rfl rfl hE rfl (r_len hE rfl 24 un22) (fun a hE=>?_)
                  refine t_val (v:=.int .i64 0) rfl rfl hE rfl (r_move hE rfl) (fun a hE=>?_)
                  refine t_nil ?_
                  refine hK_40 _ _ ?_
                  refine w_block ?_
                  refine l_loop (fun (s : Sl × Int)=>(⟨92,[]⟩ : Frm)) (fun (s : Sl × Int)=>[(1,.int .i64 x1),(2,.pointer (some x2_2)),(5,(s.1 : Sl).v),(47,(x47_41 : Sl).v),(48,.int .i64 (x47_41.len : Int)),(49,.int .i64 s.2)]) H (hE.cut (.cons rfl (.cons rfl (.cons rfl (.cons rfl (.cons rfl (.cons rfl Subs.nil))))))) hR (fun Y self1 hY_48 s a w hE hR H=>?_)
                  rcases s with ⟨x5_42,x49_43⟩
                  replace hE : Env (⟨92,[]⟩ : Frm) a [(1,.int .i64 x1),(2,.pointer (some x2_2)),(5,(x5_42 : Sl).v),(47,(x47_41 : Sl).v),(48,.int .i64 (x47_41.len : Int)),(49,.int .i64 x49_43)]:=hE
                  replace H : (value_text_l1 x1 x2_2 x47_41 (x47_41.len : Int) self1 (x5_42,x49_43)).wp w.heap Q:=H
                  unfold value_text_l1 at H
                  refine w_seq (fun K hK_49=>?_)
                  refine t_region ?_
                  refine t_val (v:=.bool (decide (x49_43 < (x47_41.len : Int)))) rfl rfl hE rfl (r_bin hE rfl rfl g_int b_lss) (fun a hE=>?_)
                  refine t_nil ?_
                  refine hK_49 _ _ ?_
                  refine w_seq (fun K hK_50=>?_)
                  refine w_cond (decide (x49_43 < (x47_41.len : Int))) hE rfl (fun hb=>?_) (fun hb=>?_)
                  · replace H:=M.ite_t hb H
                    refine w_skip ?_
                    refine hK_50 _ _ ?_
                    refine w_seq_join (fun a w=>∃ (x5_51 : Sl),Env (⟨92,[]⟩ : Frm) a [(1,.int .i64 x1),(2,.pointer (some x2_2)),(47,(x47_41 : Sl).v),(48,.int .i64 (x47_41.len : Int)),(49,.int .i64 x49_43),(5,(x5_51 : Sl).v)] ∧ Rest w0 w ∧ (value_text_j2 self1 x49_43 x5_51).wp w.heap Q) ?_ ?_
                    · rintro a w ⟨x5_51,hE,hR,H⟩
                      unfold value_text_j2 at H
                      refine t_region ?_
                      refine t_val (v:=.int .i64 (IntKind.wrap .i64 (x49_43 + 1))) rfl rfl hE rfl (r_bin hE rfl rfl g_int b_add) (fun a hE=>?_)
                      refine t_val (v:=.int .i64 (IntKind.wrap .i64 (x49_43 + 1))) rfl rfl hE rfl (r_move hE rfl) (fun a hE=>?_)
                      refine t_nil ?_
                      exact hY_48 (x5_51,IntKind.wrap .i64 (x49_43 + 1)) _ _ (hE.cut (.cons rfl (.cons rfl (.cons rfl (.cons rfl (.cons rfl (.cons rfl Subs.nil))))))) hR H
                    · skip
                      refine w_block ?_
                      refine w_seq (fun K hK_57=>?_)
                      refine t_region ?_
                      refine t_val (v:=.int .i64 x49_43) rfl rfl hE rfl (r_move hE rfl) (fun a hE=>?_)
                      obtain ⟨x52_58,qx52_58,H⟩:=H
                      refine t_val (v:=.pointer (some x52_58)) rfl rfl hE rfl (r_indexAddrL hE rfl rfl un22 sz24 qx52_58) (fun a hE=>?_)
                      obtain ⟨x53_59,qx53_59,H⟩:=H
                      refine t_val (v:=.agg x53_59) rfl rfl hE rfl (r_loadG hE rfl ag24 qx53_59) (fun a hE=>?_)
                      obtain ⟨x7_60,qx7_60,H⟩:=H
                      refine t_valh (v:=.pointer (some x7_60)) rfl rfl hE rfl hR (r_alloc zr24 qx7_60) (fun a w hE hR hh=>?_)
                      replace H:=M.at hh H; clear hh
                      refine t_val (v:=.int .i64 x49_43) rfl rfl hE rfl (r_assign hE rfl) (fun a hE=>?_)
                      obtain ⟨qz,H⟩:=H
                      obtain ⟨u_61,qu_61,H⟩:=H
                      refine t_sth rfl rfl hE hR (r_storeG hE rfl rfl sz24 qz qu_61) (fun a w hE hR hh=>?_)
                      replace H:=M.at hh H; clear hh
                      refine t_nil ?_
                      refine hK_57 _ _ ?_
                      refine w_seq (fun K hK_62=>?_)
                      refine t_region ?_
                      obtain ⟨x54_63,qx54_63,H⟩:=H
                      refine t_val (v:=.agg x54_63) rfl rfl hE rfl (r_loadG hE rfl ag24 qx54_63) (fun a hE=>?_)
                      refine t_val (v:=.int .i64 x1) rfl rfl hE rfl (r_move hE rfl) (fun a hE=>?_)
                      refine t_val (v:=.int .i64 (IntKind.wrap .i64 (x1 + 1))) rfl rfl hE rfl (r_bin hE rfl rfl g_int b_add) (fun a hE=>?_)
                      refine t_call hE hR cl_value_text rfl (sound_callF) (M.unbind H) (fun x57_64 a w ea hR H=>?_)
                      have hE:=Env.put_some hE rfl ea; clear ea
                      refine t_val (v:=.string x57_64) rfl rfl hE rfl (r_assign hE rfl) (fun a hE=>?_)
                      refine t_nil ?_
                      refine hK_62 _ _ ?_
                      refine w_seq (fun K hK_65=>?_)
                      refine t_region ?_
                      refine t_val (v:=.pointer (some ((x2_2).add 0))) rfl rfl hE rfl (r_fieldAddr hE rfl fd24_0) (fun a hE=>?_)
                      obtain ⟨x59_66,qx59_66,H⟩:=H
                      refine t_val (v:=.int .i64 x59_66) rfl rfl hE rfl (r_load hE rfl sc3 qx59_66) (fun a hE=>?_)
                      refine t_val (v:=.bool (x59_66 == 5)) rfl rfl hE rfl (r_bin hE rfl rfl g_int b_eql) (fun a hE=>?_)
                      refine t_val (v:=.bool (x59_66 == 5)) rfl rfl hE rfl (r_move hE rfl) (fun a hE=>?_)
                      refine t_grp (n:=(⟨92,[]⟩ : Frm)) (w0:=w0) 4 (fun x65_67 : Bool=>[(1,.int .i64 x1),(2,.pointer (some x2_2)),(47,(x47_41 : Sl).v),(48,.int .i64 (x47_41.len : Int)),(5,(x5_42 : Sl).v),(49,.int .i64 x49_43),(8,.string x57_64),(65,.bool x65_67)]) (M.unbind H) (fun Kr hKr H=>?_) ?_
                      · rcases bool_em (x59_66 == 5) with hb | hb
                        · replace H:=M.ite_t hb H
                          have hE:=hE.reb 61 (x59_66 == 5) true hb rfl
                          refine t_on rfl hE rfl rfl rfl ?_
                          refine t_val (v:=.int .i64 x49_43) rfl rfl hE rfl (r_move hE rfl) (fun a hE=>?_)
                          refine t_on rfl hE rfl rfl rfl ?_
                          refine t_val (v:=.int .i64 (Int.tmod x49_43 2)) rfl rfl hE rfl (r_bin hE rfl rfl g_int (b_rem ⟨by decide,rfl⟩)) (fun a hE=>?_)
                          refine t_on rfl hE rfl rfl rfl ?_
                          refine t_val (v:=.bool ((Int.tmod x49_43 2) == 1)) rfl rfl hE rfl (r_bin hE rfl rfl g_int b_eql) (fun a hE=>?_)
                          refine t_val rfl rfl hE rfl (r_pick_t hE rfl rfl) (fun a hE=>?_)
                          refine t_nil ?_
                          exact hKr _ _ _ (hE.cut (.cons rfl (.cons rfl (.cons rfl (.cons rfl (.cons rfl (.cons rfl (.cons rfl (.cons rfl Subs.nil))))))))) hR H
                        · replace H:=M.ite_f hb H
                          have hE:=hE.reb 61 (x59_66 == 5) false hb rfl
                          refine t_off rfl hE rfl rfl rfl (fun a ea=>?_)
                          have hE:=Env.put_some hE rfl ea; clear ea
                          refine t_off rfl hE rfl rfl rfl (fun a ea=>?_)
                          have hE:=Env.put_some hE rfl ea; clear ea
                          refine t_off rfl hE rfl rfl rfl (fun a ea=>?_)
                          have hE:=Env.put_some hE rfl ea; clear ea
                          refine t_val rfl rfl hE rfl (r_pick_f hE rfl rfl) (fun a hE=>?_)
                          refine t_nil ?_
                          exact hKr _ _ _ (hE.cut (.cons rfl (.cons rfl (.cons rfl (.cons rfl (.cons rfl (.cons rfl (.cons rfl (.cons rfl Subs.nil))))))))) hR H
                      · intro x65_67 a w hE hR H
                        refine t_nil ?_
                        refine hK_65 _ _ ?_
                        refine w_cond x65_67 hE rfl (fun hb=>?_) (fun hb=>?_)
                        · replace H:=M.ite_t hb H
                          refine t_region ?_
                          refine t_val (v:=(x5_42 : Sl).v) rfl rfl hE rfl (r_move hE rfl) (fun a hE=>?_)
                          refine t_val (v:=(x5_42 : Sl).v) rfl rfl hE rfl (r_move hE rfl) (fun a hE=>?_)
                          refine t_val (v:=.int .i64 (x5_42.len : Int)) rfl rfl hE rfl (r_len hE rfl 9 un118) (fun a hE=>?_)
                          refine t_val (v:=.int .i64 (IntKind.wrap .i64 ((x5_42.len : Int) - 1))) rfl rfl hE rfl (r_bin hE rfl rfl g_int b_sub) (fun a hE=>?_)
                          obtain ⟨x70_68,qx70_68,H⟩:=H
                          refine t_val (v:=.pointer (some x70_68)) rfl rfl hE rfl (r_indexAddrL hE rfl rfl un118 sz9 qx70_68) (fun a hE=>?_)
                          obtain ⟨x71_69,qx71_69,H⟩:=H
                          refine t_val (v:=.string x71_69) rfl rfl hE rfl (r_load hE rfl sc9 qx71_69) (fun a hE=>?_)
                          refine t_val (v:=.string x57_64) rfl rfl hE rfl (r_move hE rfl) (fun a hE=>?_)
                          obtain ⟨x73_70,qx73_70,H⟩:=H
                          refine t_val (v:=.string x73_70) rfl rfl hE rfl (r_bin hE rfl rfl g_str (b_addS qx73_70)) (fun a hE=>?_)
                          obtain ⟨x74_71,qx74_71,H⟩:=H
                          refine t_val (v:=.string x74_71) rfl rfl hE rfl (r_bin hE rfl rfl g_str (b_addS qx74_71)) (fun a hE=>?_)
                          obtain ⟨x75_72,qx75_72,H⟩:=H
                          refine t_val (v:=.pointer (some x75_72)) rfl rfl hE rfl (r_indexAddrL hE rfl rfl un118 sz9 qx75_72) (fun a hE=>?_)
                          obtain ⟨u_73,qu_73,H⟩:=H
                          refine t_sth rfl rfl hE hR (r_store hE rfl rfl sz9 qu_73) (fun a w hE hR hh=>?_)
                          replace H:=M.at hh H; clear hh
                          refine t_nil ?_
                          exact ⟨x5_42,hE.cut (.cons rfl (.cons rfl (.cons rfl (.cons rfl (.cons rfl (.cons rfl Subs.nil)))))),hR,H⟩
                        · replace H:=M.ite_f hb H
                          refine t_region ?_
                          refine t_val (v:=(x5_42 : Sl).v) rfl rfl hE rfl (r_move hE rfl) (fun a hE=>?_)
                          refine t_val (v:=.string x57_64) rfl rfl hE rfl (r_move hE rfl) (fun a hE=>?_)
                          obtain ⟨x78_74,qx78_74,H⟩:=H
                          refine t_valh (v:=(x78_74 : Sl).v) rfl rfl hE rfl hR (r_buildL (cells:=#[.string x57_64]) hE rfl un118 sz9 zr9 rfl rfl qx78_74) (fun a w hE hR hh=>?_)
                          replace H:=M.at hh H; clear hh
                          refine t_ex (fun x79_75=>(x79_75 : Sl).v) rfl rfl hR (M.unbind H) (fun Q H=>ap_run hE rfl rfl ap118 H) (fun x79_75 a w ea hR H=>?_)
                          have hE:=Env.put_some hE rfl ea; clear ea
                          refine t_val (v:=(x79_75 : Sl).v) rfl rfl hE rfl (r_assign hE rfl) (fun a hE=>?_)
                          refine t_nil ?_
                          exact ⟨x79_75,hE.cut (.cons rfl (.cons rfl (.cons rfl (.cons rfl (.cons rfl (.cons rfl Subs.nil)))))),hR,H⟩
                  · replace H:=M.ite_f hb H
                    refine w_exit ?_
                    refine Xu.same ?_
                    refine hK_39 _ _ ?_
                    refine w_seq (fun K hK_76=>?_)
                    refine t_region ?_
                    refine t_val (v:=(x5_42 : Sl).v) rfl rfl hE rfl (r_move hE rfl) (fun a hE=>?_)
                    refine t_call hE hR cl_strings_Join rfl (S_strings_Join x5_42 (⟨#[44,32]⟩ : ByteArray)) (M.unbind H) (fun x82_77 a w ea hR H=>?_)
                    have hE:=Env.put_some hE rfl ea; clear ea
                    refine t_val (v:=.string x82_77) rfl rfl hE rfl (r_assign hE rfl) (fun a hE=>?_)
                    refine t_nil ?_
                    refine hK_76 _ _ ?_
                    refine w_seq (fun K hK_78=>?_)
                    refine w_seq (fun K hK_79=>?_)
                    refine t_region ?_
                    refine t_val (v:=.pointer (some ((x2_2).add 0))) rfl rfl hE rfl (r_fieldAddr hE rfl fd24_0) (fun a hE=>?_)
                    obtain ⟨x84_80,qx84_80,H⟩:=H
                    refine t_val (v:=.int .i64 x84_80) rfl rfl hE rfl (r_load hE rfl sc3 qx84_80) (fun a hE=>?_)
                    refine t_val (v:=.bool (x84_80 == 5)) rfl rfl hE rfl (r_bin hE rfl rfl g_int b_eql) (fun a hE=>?_)
                    refine t_nil ?_
                    refine hK_79 _ _ ?_
                    refine w_cond (x84_80 == 5) hE rfl (fun hb=>?_) (fun hb=>?_)
                    · replace H:=M.ite_t hb H
                      refine w_seq (fun K hK_81=>?_)
                      refine t_region ?_
                      refine t_val (v:=.string x82_77) rfl rfl hE rfl (r_move hE rfl) (fun a hE=>?_)
                      obtain ⟨x87_82,qx87_82,H⟩:=H
                      refine t_val (v:=.string x87_82) rfl rfl hE rfl (r_bin hE rfl rfl g_str (b_addS qx87_82)) (fun a hE=>?_)
                      obtain ⟨x88_83,qx88_83,H⟩:=H
                      refine t_val (v:=.string x88_83) rfl rfl hE rfl (r_bin hE rfl rfl g_str (b_addS qx88_83)) (fun a hE=>?_)
                      refine t_val (v:=.string x88_83) rfl rfl hE rfl (r_assign hE rfl) (fun a hE=>?_)
                      refine t_nil ?_
                      refine hK_81 _ _ ?_
                      refine w_ret ?_
                      exact hret _ _ _ x88_83 _ hE hR (res_run hE rfl (RV.tmp rfl RV.nil)) rfl H
                    · replace H:=M.ite_f hb H
                      refine w_skip ?_
                      refine hK_78 _ _ ?_
                      refine w_seq (fun K hK_84=>?_)
                      refine t_region ?_
                      refine t_val (v:=.string x82_77) rfl rfl hE rfl (r_move hE rfl) (fun a hE=>?_)
                      obtain ⟨x90_85,qx90_85,H⟩:=H
                      refine t_val (v:=.string x90_85) rfl rfl hE rfl (r_bin hE rfl rfl g_str (b_addS qx90_85)) (fun a hE=>?_)
                      obtain ⟨x91_86,qx91_86,H⟩:=H
                      refine t_val (v:=.string x91_86) rfl rfl hE rfl (r_bin hE rfl rfl g_str (b_addS qx91_86)) (fun a hE=>?_)
                      refine t_val (v:=.string x91_86) rfl rfl hE rfl (r_assign hE rfl) (fun a hE=>?_)
                      refine t_nil ?_
                      refine hK_84 _ _ ?_
                      refine w_ret ?_
                      exact hret _ _ _ x91_86 _ hE hR (res_run hE rfl (RV.tmp rfl RV.nil)) rfl H
                · replace H:=M.ite_f hb H
                  refine w_seq (fun K hK_87=>?_)
                  refine t_region ?_
                  refine t_val (v:=.string (⟨#[63]⟩ : ByteArray)) rfl rfl hE rfl (r_assign hE rfl) (fun a hE=>?_)
                  refine t_nil ?_
                  refine hK_87 _ _ ?_
                  refine w_ret ?_
                  exact hret _ _ _ (⟨#[63]⟩ : ByteArray) _ hE hR (res_run hE rfl (RV.tmp rfl RV.nil)) rfl H
              · skip
                refine w_seq (fun K hK_88=>?_)
                refine t_region ?_
                refine t_val (v:=.bool (x13_8 == 4)) rfl rfl hE rfl (r_bin hE rfl rfl g_int b_eql) (fun a hE=>?_)
                refine t_val (v:=.bool (x13_8 == 4)) rfl rfl hE rfl (r_assign hE rfl) (fun a hE=>?_)
                refine t_nil ?_
                refine hK_88 _ _ ?_
                refine w_cond (x13_8 == 4) hE rfl (fun hb=>?_) (fun hb=>?_)
                · replace H:=M.ite_t hb H
                  refine w_skip ?_
                  exact ⟨x13_8 == 4,hE.cut (.cons rfl (.cons rfl (.cons rfl Subs.nil))),hR,H⟩
                · replace H:=M.ite_f hb H
                  refine t_region ?_
                  refine t_val (v:=.bool (x13_8 == 5)) rfl rfl hE rfl (r_bin hE rfl rfl g_int b_eql) (fun a hE=>?_)
                  refine t_val (v:=.bool (x13_8 == 5)) rfl rfl hE rfl (r_assign hE rfl) (fun a hE=>?_)
                  refine t_nil ?_
                  exact ⟨x13_8 == 5,hE.cut (.cons rfl (.cons rfl (.cons rfl Subs.nil))),hR,H⟩

def value_Text (x0 : Array Value) : M (ByteArray):=do
  let x1_2 ← mkB ty_api_Value x0
  let x3_4 ← ldG 4 x1_2
  let x4_5 ← value_text x3_4 1
  M.pure x4_5
theorem S_value_Text (x0 : Array Value) : Sound Go.Proofs.Tryz.prog 18 #[.agg x0] (fun (r : ByteArray)=>.string r) (value_Text x0):=by
  refine sound_of [(0,.agg x0)] Go.Proofs.Tryz.func18 rfl rfl (Nat.le_of_ble_eq_true rfl) (args_of ⟨rfl,trivial⟩) (fun w0 w Q R a hret hE hR H=>?_)
  unfold value_Text at H
  refine w_seq (fun K hK_1=>?_)
  refine t_region ?_
  obtain ⟨x1_2,qx1_2,H⟩:=H
  refine t_valh (v:=.pointer (some x1_2)) rfl rfl hE rfl hR (r_box hE rfl qx1_2) (fun a w hE hR hh=>?_)
  replace H:=M.at hh H; clear hh
  refine t_val (v:=.string ByteArray.empty) rfl rfl hE rfl (r_assign hE rfl) (fun a hE=>?_)
  refine t_nil ?_
  refine hK_1 _ _ ?_
  refine w_seq (fun K hK_3=>?_)
  refine t_region ?_
  obtain ⟨x3_4,qx3_4,H⟩:=H
  refine t_val (v:=.agg x3_4) rfl rfl hE rfl (r_loadG hE rfl ag24 qx3_4) (fun a hE=>?_)
  refine t_call hE hR cl_value_text rfl (S_value_text x3_4 1) (M.unbind H) (fun x4_5 a w ea hR H=>?_)
  have hE:=Env.put_some hE rfl ea; clear ea
  refine t_val (v:=.string x4_5) rfl rfl hE rfl (r_assign hE rfl) (fun a hE=>?_)
  refine t_nil ?_
  refine hK_3 _ _ ?_
  refine w_ret ?_
  exact hret _ _ _ x4_5 _ hE hR (res_run hE rfl (RV.tmp rfl RV.nil)) rfl H

def rambleref02_num (x0 : Int) (x1 : Int) : M (Int):=do
  M.ite (decide (x0 < x1)) (do
    M.pure (-1)
    ) (do
    M.ite (decide (x0 > x1)) (do
      M.pure 1
      ) (do
      M.pure 0
      )
    )
theorem S_rambleref02_num (x0 : Int) (x1 : Int) : Sound Go.Proofs.Tryz.prog 85 #[.int .i64 x0,.int .i64 x1] (fun (r : Int)=>.int .i64 r) (rambleref02_num x0 x1):=by
  refine sound_of [(0,.int .i64 x0),(1,.int .i64 x1)] Go.Proofs.Tryz.func85 rfl rfl (Nat.le_of_ble_eq_true rfl) (args_of ⟨rfl,rfl,trivial⟩) (fun w0 w Q R a hret hE hR H=>?_)
  unfold rambleref02_num at H
  refine w_seq (fun K hK_1=>?_)
  refine t_region ?_
  refine t_val (v:=.int .i64 0) rfl rfl hE rfl (r_assign hE rfl) (fun a hE=>?_)
  refine t_nil ?_
  refine hK_1 _ _ ?_
  refine w_seq (fun K hK_2=>?_)
  refine w_seq (fun K hK_3=>?_)
  refine t_region ?_
  refine t_val (v:=.int .i64 x0) rfl rfl hE rfl (r_move hE rfl) (fun a hE=>?_)
  refine t_val (v:=.int .i64 x1) rfl rfl hE rfl (r_move hE rfl) (fun a hE=>?_)
  refine t_val (v:=.bool (decide (x0 < x1))) rfl rfl hE rfl (r_bin hE rfl rfl g_int b_lss) (fun a hE=>?_)
  refine t_nil ?_
  refine hK_3 _ _ ?_
  refine w_cond (decide (x0 < x1)) hE rfl (fun hb=>?_) (fun hb=>?_)
  · replace H:=M.ite_t hb H
    refine w_seq (fun K hK_4=>?_)
    refine t_region ?_
    refine t_val (v:=.int .i64 (-1)) rfl rfl hE rfl (r_assign hE rfl) (fun a hE=>?_)
    refine t_nil ?_
    refine hK_4 _ _ ?_
    refine w_ret ?_
    exact hret _ _ _ (-1) _ hE hR (res_run hE rfl (RV.tmp rfl RV.nil)) rfl H
  · replace H:=M.ite_f hb H
    refine w_skip ?_
    refine hK_2 _ _ ?_
    refine w_seq (fun K hK_5=>?_)
    refine w_seq (fun K hK_6=>?_)
    refine t_region ?_
    refine t_val (v:=.int .i64 x0) rfl rfl hE rfl (r_move hE rfl) (fun a hE=>?_)
    refine t_val (v:=.int .i64 x1) rfl rfl hE rfl (r_move hE rfl) (fun a hE=>?_)
    refine t_val (v:=.bool (decide (x0 > x1))) rfl rfl hE rfl (r_bin hE rfl rfl g_int b_gtr) (fun a hE=>?_)
    refine t_nil ?_
    refine hK_6 _ _ ?_
    refine w_cond (decide (x0 > x1)) hE rfl (fun hb=>?_) (fun hb=>?_)
    · replace H:=M.ite_t hb H
      refine w_seq (fun K hK_7=>?_)
      refine t_region ?_
      refine t_val (v:=.int .i64 1) rfl rfl hE rfl (r_assign hE rfl) (fun a hE=>?_)
      refine t_nil ?_
      refine hK_7 _ _ ?_
      refine w_ret ?_
      exact hret _ _ _ 1 _ hE hR (res_run hE rfl (RV.tmp rfl RV.nil)) rfl H
    · replace H:=M.ite_f hb H
      refine w_skip ?_
      refine hK_5 _ _ ?_
      refine w_seq (fun K hK_8=>?_)
      refine t_region ?_
      refine t_val (v:=.int .i64 0) rfl rfl hE rfl (r_assign hE rfl) (fun a hE=>?_)
      refine t_nil ?_
      refine hK_8 _ _ ?_
      refine w_ret ?_
      exact hret _ _ _ 0 _ hE hR (res_run hE rfl (RV.tmp rfl RV.nil)) rfl H

end Gx
namespace Gx
open Go
set_option linter.unusedVariables false
set_option maxRecDepth 100000
theorem tb86_4 : tabAt Go.Proofs.Tryz.f86 4 [[],[],[0,1],[],[],[3,4],[2,5]] [[],[],[0,1],[],[],[3,4],[2,5]] [[],[],[0,1],[],[],[3,4],[0,1,2,3,4,5]] = true:=by kernel_rfl
theorem tb86_5 : tabAt Go.Proofs.Tryz.f86 5 [[],[],[0,1],[2],[],[],[4,5],[6],[3,7],[8,8,0,1,2,3,4,5,6,7,8]] [[],[],[0,1],[2],[],[],[4,5],[6],[3,7],[8]] [[],[],[0,1],[0,1,2],[],[],[4,5],[4,5,6],[0,1,2,3,4,5,6,7],[0,1,2,3,4,5,6,7,8]] = true:=by kernel_rfl
def rambleref02_text_l1 (c0_5 : ByteArray) (c1_6 : ByteArray) (self1 : (Int) → M (Int)) : (Int) → M (Int):=fun s=>match s with
  | x5_4=>do
    let x15_10 ← M.ite (decide (x5_4 < (c0_5.size : Int))) (do
      M.pure (decide (x5_4 < (c1_6.size : Int)))
      ) (do
      M.pure false
      )
    M.ite x15_10 (do
      let x20_13 ← ixS c0_5 x5_4
      let x23_14 ← ixS c1_6 x5_4
      M.ite (x20_13 != x23_14) (do
        let x27_16 ← ixS c0_5 x5_4
        let x31_17 ← ixS c1_6 x5_4
        let x33_18 ← rambleref02_num (IntKind.wrap .i64 x27_16) (IntKind.wrap .i64 x31_17)
        M.pure x33_18
        ) (do
        self1 (IntKind.wrap .i64 (x5_4 + 1))
        )
      ) (do
      let x38_20 ← rambleref02_num (c0_5.size : Int) (c1_6.size : Int)
      M.pure x38_20
      )
def rambleref02_text (x0 : ByteArray) (x1 : ByteArray) : M (Int):=do
  M.loop (rambleref02_text_l1 x0 x1) 0
theorem S_rambleref02_text (x0 : ByteArray) (x1 : ByteArray) : Sound Go.Proofs.Tryz.prog 86 #[.string x0,.string x1] (fun (r : Int)=>.int .i64 r) (rambleref02_text x0 x1):=by
  refine sound_of [(0,.string x0),(1,.string x1)] Go.Proofs.Tryz.func86 rfl rfl (Nat.le_of_ble_eq_true rfl) (args_of ⟨rfl,rfl,trivial⟩) (fun w0 w Q R a hret hE hR H=>?_)
  unfold rambleref02_text at H
  refine w_seq (fun K hK_1=>?_)
  refine t_region ?_
  refine t_val (v:=.int .i64 0) rfl rfl hE rfl (r_assign hE rfl) (fun a hE=>?_)
  refine t_nil ?_
  refine hK_1 _ _ ?_
  refine w_seq (fun K hK_2=>?_)
  refine w_seq (fun K hK_3=>?_)
  refine t_region ?_
  refine t_val (v:=.int .i64 0) rfl rfl hE rfl (r_assign hE rfl) (fun a hE=>?_)
  refine t_nil ?_
  refine hK_3 _ _ ?_
  refine w_block ?_
  refine l_loop (fun (s : Int)=>(⟨39,[]⟩ : Frm)) (fun (s : Int)=>[(0,.string x0),(1,.string x1),(5,.int .i64 s)]) H (hE.cut (.cons rfl (.cons rfl (.cons rfl Subs.nil)))) hR (fun Y self1 hY_7 x5_4 a w hE hR H=>?_)
  replace hE : Env (⟨39,[]⟩ : Frm) a [(0,.string x0),(1,.string x1),(5,.int .i64 x5_4)]:=hE
  replace H : (rambleref02_text_l1 x0 x1 self1 x5_4).wp w.heap Q:=H
  unfold rambleref02_text_l1 at H
  refine w_seq (fun K hK_8=>?_)
  refine w_seq (fun K hK_9=>?_)
  refine t_region ?_
  refine t_val (v:=.int .i64 x5_4) rfl rfl hE rfl (r_move hE rfl) (fun a hE=>?_)
  refine t_val (v:=.string x0) rfl rfl hE rfl (r_move hE rfl) (fun a hE=>?_)
  refine t_val (v:=.int .i64 (x0.size : Int)) rfl rfl hE rfl (r_lenS hE rfl un9) (fun a hE=>?_)
  refine t_val (v:=.bool (decide (x5_4 < (x0.size : Int)))) rfl rfl hE rfl (r_bin hE rfl rfl g_int b_lss) (fun a hE=>?_)
  refine t_val (v:=.bool (decide (x5_4 < (x0.size : Int)))) rfl rfl hE rfl (r_move hE rfl) (fun a hE=>?_)
  refine t_grp (n:=(⟨39,[]⟩ : Frm)) (w0:=w0) 5 (fun x15_10 : Bool=>[(0,.string x0),(1,.string x1),(5,.int .i64 x5_4),(15,.bool x15_10)]) (M.unbind H) (fun Kr hKr H=>?_) ?_
  · rcases bool_em (decide (x5_4 < (x0.size : Int))) with hb | hb
    · replace H:=M.ite_t hb H
      have hE:=hE.reb 10 (decide (x5_4 < (x0.size : Int))) true hb rfl
      refine t_on rfl hE rfl rfl rfl ?_
      refine t_val (v:=.int .i64 x5_4) rfl rfl hE rfl (r_move hE rfl) (fun a hE=>?_)
      refine t_on rfl hE rfl rfl rfl ?_
      refine t_val (v:=.string x1) rfl rfl hE rfl (r_move hE rfl) (fun a hE=>?_)
      refine t_on rfl hE rfl rfl rfl ?_
      refine t_val (v:=.int .i64 (x1.size : Int)) rfl rfl hE rfl (r_lenS hE rfl un9) (fun a hE=>?_)
      refine t_on rfl hE rfl rfl rfl ?_
      refine t_val (v:=.bool (decide (x5_4 < (x1.size : Int)))) rfl rfl hE rfl (r_bin hE rfl rfl g_int b_lss) (fun a hE=>?_)
      refine t_val rfl rfl hE rfl (r_pick_t hE rfl rfl) (fun a hE=>?_)
      refine t_nil ?_
      exact hKr _ _ _ (hE.cut (.cons rfl (.cons rfl (.cons rfl (.cons rfl Subs.nil))))) hR H
    · replace H:=M.ite_f hb H
      have hE:=hE.reb 10 (decide (x5_4 < (x0.size : Int))) false hb rfl
      refine t_off rfl hE rfl rfl rfl (fun a ea=>?_)
      have hE:=Env.put_some hE rfl ea; clear ea
      refine t_off rfl hE rfl rfl rfl (fun a ea=>?_)
      have hE:=Env.put_some hE rfl ea; clear ea
      refine t_off rfl hE rfl rfl rfl (fun a ea=>?_)
      have hE:=Env.put_some hE rfl ea; clear ea
      refine t_off rfl hE rfl rfl rfl (fun a ea=>?_)
      have hE:=Env.put_some hE rfl ea; clear ea
      refine t_val rfl rfl hE rfl (r_pick_f hE rfl rfl) (fun a hE=>?_)
      refine t_nil ?_
      exact hKr _ _ _ (hE.cut (.cons rfl (.cons rfl (.cons rfl (.cons rfl Subs.nil))))) hR H
  · intro x15_10 a w hE hR H
    refine t_nil ?_
    refine hK_9 _ _ ?_
    refine w_cond x15_10 hE rfl (fun hb=>?_) (fun hb=>?_)
    · replace H:=M.ite_t hb H
      refine w_skip ?_
      refine hK_8 _ _ ?_
      refine w_seq (fun K hK_11=>?_)
      refine w_block ?_
      refine w_seq (fun K hK_12=>?_)
      obtain ⟨x20_13,qx20_13,H⟩:=H
      obtain ⟨x23_14,qx23_14,H⟩:=H
      have hT:=tab_of tb86_4 rfl rfl
      refine d_start (fun w : World=>(fun h : Heap=>True) w.heap) [0,1,2,3,4,5,6] #[false,false,false,false,false,false,false] mo hR rfl rfl (fun w' e=>by rw [e]; exact trivial) (fun w hh hR hs=>?_)
      replace H:=M.at hh H; clear hh
      refine d_pureg (i:=0) (v:=.string x0) #[true,false,false,false,false,false,false] rfl rfl hT (by kernel_rfl) hE rfl (wanted_none rfl) (fun w=>r_move hE rfl) (fun a hE=>?_)
      refine d_pureg (i:=1) (v:=.int .i64 x5_4) #[true,true,false,false,false,false,false] rfl rfl hT (by kernel_rfl) hE rfl (wanted_none rfl) (fun w=>r_move hE rfl) (fun a hE=>?_)
      refine d_pureg (i:=2) (v:=.int .u8 x20_13) #[true,true,true,false,false,false,false] rfl rfl hT (by kernel_rfl) hE rfl (wanted_none rfl) (fun w=>r_indexS hE rfl rfl un9 qx20_13) (fun a hE=>?_)
      refine d_pureg (i:=3) (v:=.string x1) #[true,true,true,true,false,false,false] rfl rfl hT (by kernel_rfl) hE rfl (wanted_none rfl) (fun w=>r_move hE rfl) (fun a hE=>?_)
      refine d_pureg (i:=4) (v:=.int .i64 x5_4) #[true,true,true,true,true,false,false] rfl rfl hT (by kernel_rfl) hE rfl (wanted_none rfl) (fun w=>r_move hE rfl) (fun a hE=>?_)
      refine d_pureg (i:=5) (v:=.int .u8 x23_14) #[true,true,true,true,true,true,false] rfl rfl hT (by kernel_rfl) hE rfl (wanted_none rfl) (fun w=>r_indexS hE rfl rfl un9 qx23_14) (fun a hE=>?_)
      refine d_pureg (i:=6) (v:=.bool (x20_13 != x23_14)) #[true,true,true,true,true,true,true] rfl rfl hT (by kernel_rfl) hE rfl (wanted_none rfl) (fun w=>r_bin hE rfl rfl g_int b_neq) (fun a hE=>?_)
      refine d_done hT (by kernel_rfl) ?_
      refine hK_12 _ _ ?_
      refine w_cond (x20_13 != x23_14) hE rfl (fun hb=>?_) (fun hb=>?_)
      · replace H:=M.ite_t hb H
        refine w_seq (fun K hK_15=>?_)
        obtain ⟨x27_16,qx27_16,H⟩:=H
        obtain ⟨x31_17,qx31_17,H⟩:=H
        have hT:=tab_of tb86_5 rfl rfl
        refine d_start (fun w : World=>(fun h : Heap=>True) w.heap) [0,1,2,3,4,5,6,7,8,9] #[false,false,false,false,false,false,false,false,false,false] mo hR rfl rfl (fun w' e=>by rw [e]; exact trivial) (fun w hh hR hs=>?_)
        replace H:=M.at hh H; clear hh
        refine d_pureg (i:=0) (v:=.string x0) #[true,false,false,false,false,false,false,false,false,false] rfl rfl hT (by kernel_rfl) hE rfl (wanted_none rfl) (fun w=>r_move hE rfl) (fun a hE=>?_)
        refine d_pureg (i:=1) (v:=.int .i64 x5_4) #[true,true,false,false,false,false,false,false,false,false] rfl rfl hT (by kernel_rfl) hE rfl (wanted_none rfl) (fun w=>r_move hE rfl) (fun a hE=>?_)
        refine d_pureg (i:=2) (v:=.int .u8 x27_16) #[true,true,true,false,false,false,false,false,false,false] rfl rfl hT (by kernel_rfl) hE rfl (wanted_none rfl) (fun w=>r_indexS hE rfl rfl un9 qx27_16) (fun a hE=>?_)
        refine d_pureg (i:=3) (v:=.int .i64 (IntKind.wrap .i64 x27_16)) #[true,true,true,true,false,false,false,false,false,false] rfl rfl hT (by kernel_rfl) hE rfl (wanted_none rfl) (fun w=>r_convI hE rfl un5 un2) (fun a hE=>?_)
        refine d_pureg (i:=4) (v:=.string x1) #[true,true,true,true,true,false,false,false,false,false] rfl rfl hT (by kernel_rfl) hE rfl (wanted_none rfl) (fun w=>r_move hE rfl) (fun a hE=>?_)
        refine d_pureg (i:=5) (v:=.int .i64 x5_4) #[true,true,true,true,true,true,false,false,false,false] rfl rfl hT (by kernel_rfl) hE rfl (wanted_none rfl) (fun w=>r_move hE rfl) (fun a hE=>?_)
        refine d_pureg (i:=6) (v:=.int .u8 x31_17) #[true,true,true,true,true,true,true,false,false,false] rfl rfl hT (by kernel_rfl) hE rfl (wanted_none rfl) (fun w=>r_indexS hE rfl rfl un9 qx31_17) (fun a hE=>?_)
        refine d_pureg (i:=7) (v:=.int .i64 (IntKind.wrap .i64 x31_17)) #[true,true,true,true,true,true,true,true,false,false] rfl rfl hT (by kernel_rfl) hE rfl (wanted_none rfl) (fun w=>r_convI hE rfl un5 un2) (fun a hE=>?_)
        refine d_calll (i:=8) #[true,true,true,true,true,true,true,true,true,false] rfl rfl rfl hT (by kernel_rfl) rfl hE hR (wanted_none rfl) cl_rambleref02_num rfl (S_rambleref02_num (IntKind.wrap .i64 x27_16) (IntKind.wrap .i64 x31_17)) (M.unbind H) (fun x33_18 a w ea hR H=>?_)
        have hE:=Env.put_some hE rfl ea; clear ea
        refine d_pureg (i:=9) (v:=.int .i64 x33_18) #[true,true,true,true,true,true,true,true,true,true] rfl rfl hT (by kernel_rfl) hE rfl (wanted_none rfl) (fun w=>r_assign hE rfl) (fun a hE=>?_)
        refine d_done hT (by kernel_rfl) ?_
        refine hK_15 _ _ ?_
        refine w_ret ?_
        exact hret _ _ _ x33_18 _ hE hR (res_run hE rfl (RV.tmp rfl RV.nil)) rfl H
      · replace H:=M.ite_f hb H
        refine w_skip ?_
        refine hK_11 _ _ ?_
        refine t_region ?_
        refine t_val (v:=.int .i64 x5_4) rfl rfl hE rfl (r_move hE rfl) (fun a hE=>?_)
        refine t_val (v:=.int .i64 (IntKind.wrap .i64 (x5_4 + 1))) rfl rfl hE rfl (r_bin hE rfl rfl g_int b_add) (fun a hE=>?_)
        refine t_val (v:=.int .i64 (IntKind.wrap .i64 (x5_4 + 1))) rfl rfl hE rfl (r_assign hE rfl) (fun a hE=>?_)
        refine t_nil ?_
        exact hY_7 (IntKind.wrap .i64 (x5_4 + 1)) _ _ (hE.cut (.cons rfl (.cons rfl (.cons rfl Subs.nil)))) hR H
    · replace H:=M.ite_f hb H
      refine w_exit ?_
      refine Xu.same ?_
      refine hK_2 _ _ ?_
      refine w_seq (fun K hK_19=>?_)
      refine t_region ?_
      refine t_val (v:=.string x0) rfl rfl hE rfl (r_move hE rfl) (fun a hE=>?_)
      refine t_val (v:=.int .i64 (x0.size : Int)) rfl rfl hE rfl (r_lenS hE rfl un9) (fun a hE=>?_)
      refine t_val (v:=.string x1) rfl rfl hE rfl (r_move hE rfl) (fun a hE=>?_)
      refine t_val (v:=.int .i64 (x1.size : Int)) rfl rfl hE rfl (r_lenS hE rfl un9) (fun a hE=>?_)
      refine t_call hE hR cl_rambleref02_num rfl (S_rambleref02_num (x0.size : Int) (x1.size : Int)) (M.unbind H) (fun x38_20 a w ea hR H=>?_)
      have hE:=Env.put_some hE rfl ea; clear ea
      refine t_val (v:=.int .i64 x38_20) rfl rfl hE rfl (r_assign hE rfl) (fun a hE=>?_)
      refine t_nil ?_
      refine hK_19 _ _ ?_
      refine w_ret ?_
      exact hret _ _ _ x38_20 _ hE hR (res_run hE rfl (RV.tmp rfl RV.nil)) rfl H

theorem tb38_13 : tabAt Go.Proofs.Tryz.f38 13 [[],[0],[],[1,2],[3],[],[5],[],[6,7],[8],[4,9],[10,10,0,1,2,3,4,5,6,7,8,9,10]] [[],[0],[],[1,2],[3],[],[5],[],[6,7],[8],[4,9],[10]] [[],[0],[],[0,1,2],[0,1,2,3],[],[5],[],[5,6,7],[5,6,7,8],[0,1,2,3,4,5,6,7,8,9],[0,1,2,3,4,5,6,7,8,9,10]] = true:=by kernel_rfl
def rambleref02_Compare_l1 (c2_28 : Addr) (c3_29 : Addr) (self1 : (Int) → M (Int)) : (Int) → M (Int):=fun s=>match s with
  | x8_27=>do
    let x36_33 ← ldL ((c2_28).add 3)
    let x45_34 ← M.ite (decide (x8_27 < (x36_33.len : Int))) (do
      let x42_35 ← ldL ((c3_29).add 3)
      M.pure (decide (x8_27 < (x42_35.len : Int)))
      ) (do
      M.pure false
      )
    M.ite x45_34 (do
      let x49_38 ← ldL ((c2_28).add 3)
      let x51_39 ← ixL x49_38 x8_27 4
      let x52_40 ← ldG 4 x51_39
      let x54_41 ← ldL ((c3_29).add 3)
      let x56_42 ← ixL x54_41 x8_27 4
      let x57_43 ← ldG 4 x56_42
      let x58_44 ← callF Go.Proofs.Tryz.prog fn_rambleref02_Compare #[.agg x52_40,.agg x57_43] (fun r : Int=>.int .i64 r)
      M.ite (x58_44 != 0) (do
        M.pure x58_44
        ) (do
        self1 (IntKind.wrap .i64 (x8_27 + 1))
        )
      ) (do
      let x63_48 ← ldL ((c2_28).add 3)
      let x66_49 ← ldL ((c3_29).add 3)
      let x68_50 ← rambleref02_num (x63_48.len : Int) (x66_49.len : Int)
      M.pure x68_50
      )
def rambleref02_Compare (x0 : Array Value) (x1 : Array Value) : M (Int):=do
  let x2_2 ← mkB ty_api_Value x0
  let x3_3 ← mkB ty_api_Value x1
  let x11_6 ← ldI .i64 ((x2_2).add 0)
  let x13_7 ← ldI .i64 ((x3_3).add 0)
  let x14_8 ← rambleref02_num x11_6 x13_7
  M.ite (x14_8 != 0) (do
    M.pure x14_8
    ) (do
    let x19_13 ← ldI .i64 ((x2_2).add 1)
    let x21_14 ← ldI .i64 ((x3_3).add 1)
    let x22_15 ← rambleref02_num x19_13 x21_14
    M.ite (x22_15 != 0) (do
      M.pure x22_15
      ) (do
      let x27_20 ← ldS ((x2_2).add 2)
      let x29_21 ← ldS ((x3_3).add 2)
      let x30_22 ← rambleref02_text x27_20 x29_21
      M.ite (x30_22 != 0) (do
        M.pure x30_22
        ) (do
        M.loop (rambleref02_Compare_l1 x2_2 x3_3) 0
        )
      )
    )
theorem S_rambleref02_Compare (x0 : Array Value) (x1 : Array Value) : Sound Go.Proofs.Tryz.prog 38 #[.agg x0,.agg x1] (fun (r : Int)=>.int .i64 r) (rambleref02_Compare x0 x1):=by
  refine sound_of [(0,.agg x0),(1,.agg x1)] Go.Proofs.Tryz.func38 rfl rfl (Nat.le_of_ble_eq_true rfl) (args_of ⟨rfl,rfl,trivial⟩) (fun w0 w Q R a hret hE hR H=>?_)
  unfold rambleref02_Compare at H
  refine w_seq (fun K hK_1=>?_)
  refine t_region ?_
  obtain ⟨x2_2,qx2_2,H⟩:=H
  refine t_valh (v:=.pointer (some x2_2)) rfl rfl hE rfl hR (r_box hE rfl qx2_2) (fun a w hE hR hh=>?_)
  replace H:=M.at hh H; clear hh
  obtain ⟨x3_3,qx3_3,H⟩:=H
  refine t_valh (v:=.pointer (some x3_3)) rfl rfl hE rfl hR (r_box hE rfl qx3_3) (fun a w hE hR hh=>?_)
  replace H:=M.at hh H; clear hh
  refine t_val (v:=.int .i64 0) rfl rfl hE rfl (r_assign hE rfl) (fun a hE=>?_)
  refine t_nil ?_
  refine hK_1 _ _ ?_
  refine w_seq (fun K hK_4=>?_)
  refine w_seq (fun K hK_5=>?_)
  refine t_region ?_
  refine t_val (v:=.pointer (some ((x2_2).add 0))) rfl rfl hE rfl (r_fieldAddr hE rfl fd24_0) (fun a hE=>?_)
  obtain ⟨x11_6,qx11_6,H⟩:=H
  refine t_val (v:=.int .i64 x11_6) rfl rfl hE rfl (r_load hE rfl sc3 qx11_6) (fun a hE=>?_)
  refine t_val (v:=.pointer (some ((x3_3).add 0))) rfl rfl hE rfl (r_fieldAddr hE rfl fd24_0) (fun a hE=>?_)
  obtain ⟨x13_7,qx13_7,H⟩:=H
  refine t_val (v:=.int .i64 x13_7) rfl rfl hE rfl (r_load hE rfl sc3 qx13_7) (fun a hE=>?_)
  refine t_call hE hR cl_rambleref02_num rfl (S_rambleref02_num x11_6 x13_7) (M.unbind H) (fun x14_8 a w ea hR H=>?_)
  have hE:=Env.put_some hE rfl ea; clear ea
  refine t_val (v:=.int .i64 x14_8) rfl rfl hE rfl (r_assign hE rfl) (fun a hE=>?_)
  refine t_nil ?_
  refine hK_5 _ _ ?_
  refine w_seq (fun K hK_9=>?_)
  refine t_region ?_
  refine t_val (v:=.int .i64 x14_8) rfl rfl hE rfl (r_move hE rfl) (fun a hE=>?_)
  refine t_val (v:=.bool (x14_8 != 0)) rfl rfl hE rfl (r_bin hE rfl rfl g_int b_neq) (fun a hE=>?_)
  refine t_nil ?_
  refine hK_9 _ _ ?_
  refine w_cond (x14_8 != 0) hE rfl (fun hb=>?_) (fun hb=>?_)
  · replace H:=M.ite_t hb H
    refine w_seq (fun K hK_10=>?_)
    refine t_region ?_
    refine t_val (v:=.int .i64 x14_8) rfl rfl hE rfl (r_move hE rfl) (fun a hE=>?_)
    refine t_val (v:=.int .i64 x14_8) rfl rfl hE rfl (r_assign hE rfl) (fun a hE=>?_)
    refine t_nil ?_
    refine hK_10 _ _ ?_
    refine w_ret ?_
    exact hret _ _ _ x14_8 _ hE hR (res_run hE rfl (RV.tmp rfl RV.nil)) rfl H
  · replace H:=M.ite_f hb H
    refine w_skip ?_
    refine hK_4 _ _ ?_
    refine w_seq (fun K hK_11=>?_)
    refine w_seq (fun K hK_12=>?_)
    refine t_region ?_
    refine t_val (v:=.pointer (some ((x2_2).add 1))) rfl rfl hE rfl (r_fieldAddr hE rfl fd24_1) (fun a hE=>?_)
    obtain ⟨x19_13,qx19_13,H⟩:=H
    refine t_val (v:=.int .i64 x19_13) rfl rfl hE rfl (r_load hE rfl sc2 qx19_13) (fun a hE=>?_)
    refine t_val (v:=.pointer (some ((x3_3).add 1))) rfl rfl hE rfl (r_fieldAddr hE rfl fd24_1) (fun a hE=>?_)
    obtain ⟨x21_14,qx21_14,H⟩:=H
    refine t_val (v:=.int .i64 x21_14) rfl rfl hE rfl (r_load hE rfl sc2 qx21_14) (fun a hE=>?_)
    refine t_call hE hR cl_rambleref02_num rfl (S_rambleref02_num x19_13 x21_14) (M.unbind H) (fun x22_15 a w ea hR H=>?_)
    have hE:=Env.put_some hE rfl ea; clear ea
    refine t_val (v:=.int .i64 x22_15) rfl rfl hE rfl (r_assign hE rfl) (fun a hE=>?_)
    refine t_nil ?_
    refine hK_12 _ _ ?_
    refine w_seq (fun K hK_16=>?_)
    refine t_region ?_
    refine t_val (v:=.int .i64 x22_15) rfl rfl hE rfl (r_move hE rfl) (fun a hE=>?_)
    refine t_val (v:=.bool (x22_15 != 0)) rfl rfl hE rfl (r_bin hE rfl rfl g_int b_neq) (fun a hE=>?_)
    refine t_nil ?_
    refine hK_16 _ _ ?_
    refine w_cond (x22_15 != 0) hE rfl (fun hb=>?_) (fun hb=>?_)
    · replace H:=M.ite_t hb H
      refine w_seq (fun K hK_17=>?_)
      refine t_region ?_
      refine t_val (v:=.int .i64 x22_15) rfl rfl hE rfl (r_move hE rfl) (fun a hE=>?_)
      refine t_val (v:=.int .i64 x22_15) rfl rfl hE rfl (r_assign hE rfl) (fun a hE=>?_)
      refine t_nil ?_
      refine hK_17 _ _ ?_
      refine w_ret ?_
      exact hret _ _ _ x22_15 _ hE hR (res_run hE rfl (RV.tmp rfl RV.nil)) rfl H
    · replace H:=M.ite_f hb H
      refine w_skip ?_
      refine hK_11 _ _ ?_
      refine w_seq (fun K hK_18=>?_)
      refine w_seq (fun K hK_19=>?_)
      refine t_region ?_
      refine t_val (v:=.pointer (some ((x2_2).add 2))) rfl rfl hE rfl (r_fieldAddr hE rfl fd24_2) (fun a hE=>?_)
      obtain ⟨x27_20,qx27_20,H⟩:=H
      refine t_val (v:=.string x27_20) rfl rfl hE rfl (r_load hE rfl sc9 qx27_20) (fun a hE=>?_)
      refine t_val (v:=.pointer (some ((x3_3).add 2))) rfl rfl hE rfl (r_fieldAddr hE rfl fd24_2) (fun a hE=>?_)
      obtain ⟨x29_21,qx29_21,H⟩:=H
      refine t_val (v:=.string x29_21) rfl rfl hE rfl (r_load hE rfl sc9 qx29_21) (fun a hE=>?_)
      refine t_call hE hR cl_rambleref02_text rfl (S_rambleref02_text x27_20 x29_21) (M.unbind H) (fun x30_22 a w ea hR H=>?_)
      have hE:=Env.put_some hE rfl ea; clear ea
      refine t_val (v:=.int .i64 x30_22) rfl rfl hE rfl (r_assign hE rfl) (fun a hE=>?_)
      refine t_nil ?_
      refine hK_19 _ _ ?_
      refine w_seq (fun K hK_23=>?_)
      refine t_region ?_
      refine t_val (v:=.int .i64 x30_22) rfl rfl hE rfl (r_move hE rfl) (fun a hE=>?_)
      refine t_val (v:=.bool (x30_22 != 0)) rfl rfl hE rfl (r_bin hE rfl rfl g_int b_neq) (fun a hE=>?_)
      refine t_nil ?_
      refine hK_23 _ _ ?_
      refine w_cond (x30_22 != 0) hE rfl (fun hb=>?_) (fun hb=>?_)
      · replace H:=M.ite_t hb H
        refine w_seq (fun K hK_24=>?_)
        refine t_region ?_
        refine t_val (v:=.int .i64 x30_22) rfl rfl hE rfl (r_move hE rfl) (fun a hE=>?_)
        refine t_val (v:=.int .i64 x30_22) rfl rfl hE rfl (r_assign hE rfl) (fun a hE=>?_)
        refine t_nil ?_
        refine hK_24 _ _ ?_
        refine w_ret ?_
        exact hret _ _ _ x30_22 _ hE hR (res_run hE rfl (RV.tmp rfl RV.nil)) rfl H
      · replace H:=M.ite_f hb H
        refine w_skip ?_
        refine hK_18 _ _ ?_
        refine w_seq (fun K hK_25=>?_)
        refine w_seq (fun K hK_26=>?_)
        refine t_region ?_
        refine t_val (v:=.int .i64 0) rfl rfl hE rfl (r_assign hE rfl) (fun a hE=>?_)
        refine t_nil ?_
        refine hK_26 _ _ ?_
        refine w_block ?_
        refine l_loop (fun (s : Int)=>(⟨69,[]⟩ : Frm)) (fun (s : Int)=>[(2,.pointer (some x2_2)),(3,.pointer (some x3_3)),(8,.int .i64 s)]) H (hE.cut (.cons rfl (.cons rfl (.cons rfl Subs.nil)))) hR (fun Y self1 hY_30 x8_27 a w hE hR H=>?_)
        replace hE : Env (⟨69,[]⟩ : Frm) a [(2,.pointer (some x2_2)),(3,.pointer (some x3_3)),(8,.int .i64 x8_27)]:=hE
        replace H : (rambleref02_Compare_l1 x2_2 x3_3 self1 x8_27).wp w.heap Q:=H
        unfold rambleref02_Compare_l1 at H
        refine w_seq (fun K hK_31=>?_)
        refine w_seq (fun K hK_32=>?_)
        refine t_region ?_
        refine t_val (v:=.int .i64 x8_27) rfl rfl hE rfl (r_move hE rfl) (fun a hE=>?_)
        refine t_val (v:=.pointer (some ((x2_2).add 3))) rfl rfl hE rfl (r_fieldAddr hE rfl fd24_3) (fun a hE=>?_)
        obtain ⟨x36_33,qx36_33,H⟩:=H
        refine t_val (v:=(x36_33 : Sl).v) rfl rfl hE rfl (r_load hE rfl sc22 qx36_33) (fun a hE=>?_)
        refine t_val (v:=.int .i64 (x36_33.len : Int)) rfl rfl hE rfl (r_len hE rfl 24 un22) (fun a hE=>?_)
        refine t_val (v:=.bool (decide (x8_27 < (x36_33.len : Int)))) rfl rfl hE rfl (r_bin hE rfl rfl g_int b_lss) (fun a hE=>?_)
        refine t_val (v:=.bool (decide (x8_27 < (x36_33.len : Int)))) rfl rfl hE rfl (r_move hE rfl) (fun a hE=>?_)
        refine t_grp (n:=(⟨69,[]⟩ : Frm)) (w0:=w0) 6 (fun x45_34 : Bool=>[(2,.pointer (some x2_2)),(3,.pointer (some x3_3)),(8,.int .i64 x8_27),(45,.bool x45_34)]) (M.unbind H) (fun Kr hKr H=>?_) ?_
        · rcases bool_em (decide (x8_27 < (x36_33.len : Int))) with hb | hb
          · replace H:=M.ite_t hb H
            have hE:=hE.reb 39 (decide (x8_27 < (x36_33.len : Int))) true hb rfl
            refine t_on rfl hE rfl rfl rfl ?_
            refine t_val (v:=.int .i64 x8_27) rfl rfl hE rfl (r_move hE rfl) (fun a hE=>?_)
            refine t_on rfl hE rfl rfl rfl ?_
            refine t_val (v:=.pointer (some ((x3_3).add 3))) rfl rfl hE rfl (r_fieldAddr hE rfl fd24_3) (fun a hE=>?_)
            refine t_on rfl hE rfl rfl rfl ?_
            obtain ⟨x42_35,qx42_35,H⟩:=H
            refine t_val (v:=(x42_35 : Sl).v) rfl rfl hE rfl (r_load hE rfl sc22 qx42_35) (fun a hE=>?_)
            refine t_on rfl hE rfl rfl rfl ?_
            refine t_val (v:=.int .i64 (x42_35.len : Int)) rfl rfl hE rfl (r_len hE rfl 24 un22) (fun a hE=>?_)
            refine t_on rfl hE rfl rfl rfl ?_
            refine t_val (v:=.bool (decide (x8_27 < (x42_35.len : Int)))) rfl rfl hE rfl (r_bin hE rfl rfl g_int b_lss) (fun a hE=>?_)
            refine t_val rfl rfl hE rfl (r_pick_t hE rfl rfl) (fun a hE=>?_)
            refine t_nil ?_
            exact hKr _ _ _ (hE.cut (.cons rfl (.cons rfl (.cons rfl (.cons rfl Subs.nil))))) hR H
          · replace H:=M.ite_f hb H
            have hE:=hE.reb 39 (decide (x8_27 < (x36_33.len : Int))) false hb rfl
            refine t_off rfl hE rfl rfl rfl (fun a ea=>?_)
            have hE:=Env.put_some hE rfl ea; clear ea
            refine t_off rfl hE rfl rfl rfl (fun a ea=>?_)
            have hE:=Env.put_some hE rfl ea; clear ea
            refine t_off rfl hE rfl rfl rfl (fun a ea=>?_)
            have hE:=Env.put_some hE rfl ea; clear ea
            refine t_off rfl hE rfl rfl rfl (fun a ea=>?_)
            have hE:=Env.put_some hE rfl ea; clear ea
            refine t_off rfl hE rfl rfl rfl (fun a ea=>?_)
            have hE:=Env.put_some hE rfl ea; clear ea
            refine t_val rfl rfl hE rfl (r_pick_f hE rfl rfl) (fun a hE=>?_)
            refine t_nil ?_
            exact hKr _ _ _ (hE.cut (.cons rfl (.cons rfl (.cons rfl (.cons rfl Subs.nil))))) hR H
        · intro x45_34 a w hE hR H
          refine t_nil ?_
          refine hK_32 _ _ ?_
          refine w_cond x45_34 hE rfl (fun hb=>?_) (fun hb=>?_)
          · replace H:=M.ite_t hb H
            refine w_skip ?_
            refine hK_31 _ _ ?_
            refine w_seq (fun K hK_36=>?_)
            refine w_block ?_
            refine w_seq (fun K hK_37=>?_)
            obtain ⟨x49_38,qx49_38,H⟩:=H
            obtain ⟨x51_39,qx51_39,H⟩:=H
            obtain ⟨x52_40,qx52_40,H⟩:=H
            obtain ⟨x54_41,qx54_41,H⟩:=H
            obtain ⟨x56_42,qx56_42,H⟩:=H
            obtain ⟨x57_43,qx57_43,H⟩:=H
            have hT:=tab_of tb38_13 rfl rfl
            refine d_start (fun w : World=>(fun h : Heap=>(hcell h ((x2_2).add 3) = some ((x49_38 : Sl).v)) ∧ (x52_40.size = 4 ∧ ∀ i,i < 4 → hcell h (Addr.add x51_39 i) = x52_40[i]?) ∧ (hcell h ((x3_3).add 3) = some ((x54_41 : Sl).v)) ∧ (x57_43.size = 4 ∧ ∀ i,i < 4 → hcell h (Addr.add x56_42 i) = x57_43[i]?)) w.heap) [10,11] #[false,false,false,false,false,false,false,false,false,false,false,false] mo hR rfl rfl (fun w' e=>by rw [e]; exact ⟨qx49_38,qx52_40,qx54_41,qx57_43⟩) (fun w hh hR hs=>?_)
            replace H:=M.at hh H; clear hh
            refine d_pureg (i:=0) (v:=.pointer (some ((x2_2).add 3))) #[true,false,false,false,false,false,false,false,false,false,false,false] rfl rfl hT (by kernel_rfl) hE rfl (wanted_none rfl) (fun w=>r_fieldAddr hE rfl fd24_3) (fun a hE=>?_)
            refine d_pureg (i:=2) (v:=.int .i64 x8_27) #[true,false,true,false,false,false,false,false,false,false,false,false] rfl rfl hT (by kernel_rfl) hE rfl (wanted_none rfl) (fun w=>r_move hE rfl) (fun a hE=>?_)
            refine d_pureg (i:=5) (v:=.pointer (some ((x3_3).add 3))) #[true,false,true,false,false,true,false,false,false,false,false,false] rfl rfl hT (by kernel_rfl) hE rfl (wanted_none rfl) (fun w=>r_fieldAddr hE rfl fd24_3) (fun a hE=>?_)
            refine d_pureg (i:=7) (v:=.int .i64 x8_27) #[true,false,true,false,false,true,false,true,false,false,false,false] rfl rfl hT (by kernel_rfl) hE rfl (wanted_none rfl) (fun w=>r_move hE rfl) (fun a hE=>?_)
            refine d_read (i:=1) (v:=(x49_38 : Sl).v) #[true,true,true,false,false,true,false,true,false,false,false,false] rfl rfl hT (by kernel_rfl) hE rfl (wanted_none rfl) hs (fun w s=>r_load hE rfl sc22 s.1) (fun a hE=>?_)
            refine d_pureg (i:=3) (v:=.pointer (some x51_39)) #[true,true,true,true,false,true,false,true,false,false,false,false] rfl rfl hT (by kernel_rfl) hE rfl (wanted_none rfl) (fun w=>r_indexAddrL hE rfl rfl un22 sz24 qx51_39) (fun a hE=>?_)
            refine d_read (i:=4) (v:=.agg x52_40) #[true,true,true,true,true,true,false,true,false,false,false,false] rfl rfl hT (by kernel_rfl) hE rfl (wanted_none rfl) hs (fun w s=>r_loadG hE rfl ag24 s.2.1) (fun a hE=>?_)
            refine d_read (i:=6) (v:=(x54_41 : Sl).v) #[true,true,true,true,true,true,true,true,false,false,false,false] rfl rfl hT (by kernel_rfl) hE rfl (wanted_none rfl) hs (fun w s=>r_load hE rfl sc22 s.2.2.1) (fun a hE=>?_)
            refine d_pureg (i:=8) (v:=.pointer (some x56_42)) #[true,true,true,true,true,true,true,true,true,false,false,false] rfl rfl hT (by kernel_rfl) hE rfl (wanted_none rfl) (fun w=>r_indexAddrL hE rfl rfl un22 sz24 qx56_42) (fun a hE=>?_)
            refine d_read (i:=9) (v:=.agg x57_43) #[true,true,true,true,true,true,true,true,true,true,false,false] rfl rfl hT (by kernel_rfl) hE rfl (wanted_none rfl) hs (fun w s=>r_loadG hE rfl ag24 s.2.2.2) (fun a hE=>?_)
            refine d_calll (i:=10) #[true,true,true,true,true,true,true,true,true,true,true,false] rfl rfl rfl hT (by kernel_rfl) rfl hE hR (wanted_none rfl) cl_rambleref02_Compare rfl (sound_callF) (M.unbind H) (fun x58_44 a w ea hR H=>?_)
            have hE:=Env.put_some hE rfl ea; clear ea
            refine d_pureg (i:=11) (v:=.int .i64 x58_44) #[true,true,true,true,true,true,true,true,true,true,true,true] rfl rfl hT (by kernel_rfl) hE rfl (wanted_none rfl) (fun w=>r_assign hE rfl) (fun a hE=>?_)
            refine d_done hT (by kernel_rfl) ?_
            refine hK_37 _ _ ?_
            refine w_seq (fun K hK_45=>?_)
            refine t_region ?_
            refine t_val (v:=.int .i64 x58_44) rfl rfl hE rfl (r_move hE rfl) (fun a hE=>?_)
            refine t_val (v:=.bool (x58_44 != 0)) rfl rfl hE rfl (r_bin hE rfl rfl g_int b_neq) (fun a hE=>?_)
            refine t_nil ?_
            refine hK_45 _ _ ?_
            refine w_cond (x58_44 != 0) hE rfl (fun hb=>?_) (fun hb=>?_)
            · replace H:=M.ite_t hb H
              refine w_seq (fun K hK_46=>?_)
              refine t_region ?_
              refine t_val (v:=.int .i64 x58_44) rfl rfl hE rfl (r_move hE rfl) (fun a hE=>?_)
              refine t_val (v:=.int .i64 x58_44) rfl rfl hE rfl (r_assign hE rfl) (fun a hE=>?_)
              refine t_nil ?_
              refine hK_46 _ _ ?_
              refine w_ret ?_
              exact hret _ _ _ x58_44 _ hE hR (res_run hE rfl (RV.tmp rfl RV.nil)) rfl H
            · replace H:=M.ite_f hb H
              refine w_skip ?_
              refine hK_36 _ _ ?_
              refine t_region ?_
              refine t_val (v:=.int .i64 x8_27) rfl rfl hE rfl (r_move hE rfl) (fun a hE=>?_)
              refine t_val (v:=.int .i64 (IntKind.wrap .i64 (x8_27 + 1))) rfl rfl hE rfl (r_bin hE rfl rfl g_int b_add) (fun a hE=>?_)
              refine t_val (v:=.int .i64 (IntKind.wrap .i64 (x8_27 + 1))) rfl rfl hE rfl (r_assign hE rfl) (fun a hE=>?_)
              refine t_nil ?_
              exact hY_30 (IntKind.wrap .i64 (x8_27 + 1)) _ _ (hE.cut (.cons rfl (.cons rfl (.cons rfl Subs.nil)))) hR H
          · replace H:=M.ite_f hb H
            refine w_exit ?_
            refine Xu.same ?_
            refine hK_25 _ _ ?_
            refine w_seq (fun K hK_47=>?_)
            refine t_region ?_
            refine t_val (v:=.pointer (some ((x2_2).add 3))) rfl rfl hE rfl (r_fieldAddr hE rfl fd24_3) (fun a hE=>?_)
            obtain ⟨x63_48,qx63_48,H⟩:=H
            refine t_val (v:=(x63_48 : Sl).v) rfl rfl hE rfl (r_load hE rfl sc22 qx63_48) (fun a hE=>?_)
            refine t_val (v:=.int .i64 (x63_48.len : Int)) rfl rfl hE rfl (r_len hE rfl 24 un22) (fun a hE=>?_)
            refine t_val (v:=.pointer (some ((x3_3).add 3))) rfl rfl hE rfl (r_fieldAddr hE rfl fd24_3) (fun a hE=>?_)
            obtain ⟨x66_49,qx66_49,H⟩:=H
            refine t_val (v:=(x66_49 : Sl).v) rfl rfl hE rfl (r_load hE rfl sc22 qx66_49) (fun a hE=>?_)
            refine t_val (v:=.int .i64 (x66_49.len : Int)) rfl rfl hE rfl (r_len hE rfl 24 un22) (fun a hE=>?_)
            refine t_call hE hR cl_rambleref02_num rfl (S_rambleref02_num (x63_48.len : Int) (x66_49.len : Int)) (M.unbind H) (fun x68_50 a w ea hR H=>?_)
            have hE:=Env.put_some hE rfl ea; clear ea
            refine t_val (v:=.int .i64 x68_50) rfl rfl hE rfl (r_assign hE rfl) (fun a hE=>?_)
            refine t_nil ?_
            refine hK_47 _ _ ?_
            refine w_ret ?_
            exact hret _ _ _ x68_50 _ hE hR (res_run hE rfl (RV.tmp rfl RV.nil)) rfl H

def rambleref02_Same (x0 : Array Value) (x1 : Array Value) : M (Bool):=do
  let x2_2 ← mkB ty_api_Value x0
  let x3_3 ← mkB ty_api_Value x1
  let x5_5 ← ldG 4 x2_2
  let x6_6 ← ldG 4 x3_3
  let x7_7 ← rambleref02_Compare x5_5 x6_6
  M.pure (x7_7 == 0)
theorem S_rambleref02_Same (x0 : Array Value) (x1 : Array Value) : Sound Go.Proofs.Tryz.prog 19 #[.agg x0,.agg x1] (fun (r : Bool)=>.bool r) (rambleref02_Same x0 x1):=by
  refine sound_of [(0,.agg x0),(1,.agg x1)] Go.Proofs.Tryz.func19 rfl rfl (Nat.le_of_ble_eq_true rfl) (args_of ⟨rfl,rfl,trivial⟩) (fun w0 w Q R a hret hE hR H=>?_)
  unfold rambleref02_Same at H
  refine w_seq (fun K hK_1=>?_)
  refine t_region ?_
  obtain ⟨x2_2,qx2_2,H⟩:=H
  refine t_valh (v:=.pointer (some x2_2)) rfl rfl hE rfl hR (r_box hE rfl qx2_2) (fun a w hE hR hh=>?_)
  replace H:=M.at hh H; clear hh
  obtain ⟨x3_3,qx3_3,H⟩:=H
  refine t_valh (v:=.pointer (some x3_3)) rfl rfl hE rfl hR (r_box hE rfl qx3_3) (fun a w hE hR hh=>?_)
  replace H:=M.at hh H; clear hh
  refine t_val (v:=.bool false) rfl rfl hE rfl (r_assign hE rfl) (fun a hE=>?_)
  refine t_nil ?_
  refine hK_1 _ _ ?_
  refine w_seq (fun K hK_4=>?_)
  refine t_region ?_
  obtain ⟨x5_5,qx5_5,H⟩:=H
  refine t_val (v:=.agg x5_5) rfl rfl hE rfl (r_loadG hE rfl ag24 qx5_5) (fun a hE=>?_)
  obtain ⟨x6_6,qx6_6,H⟩:=H
  refine t_val (v:=.agg x6_6) rfl rfl hE rfl (r_loadG hE rfl ag24 qx6_6) (fun a hE=>?_)
  refine t_call hE hR cl_rambleref02_Compare rfl (S_rambleref02_Compare x5_5 x6_6) (M.unbind H) (fun x7_7 a w ea hR H=>?_)
  have hE:=Env.put_some hE rfl ea; clear ea
  refine t_val (v:=.bool (x7_7 == 0)) rfl rfl hE rfl (r_bin hE rfl rfl g_int b_eql) (fun a hE=>?_)
  refine t_val (v:=.bool (x7_7 == 0)) rfl rfl hE rfl (r_assign hE rfl) (fun a hE=>?_)
  refine t_nil ?_
  refine hK_4 _ _ ?_
  refine w_ret ?_
  exact hret _ _ _ (x7_7 == 0) _ hE hR (res_run hE rfl (RV.tmp rfl RV.nil)) rfl H

def value_Same (x0 : Array Value) (x1 : Array Value) : M (Bool):=do
  let x2_2 ← mkB ty_api_Value x0
  let x3_3 ← mkB ty_api_Value x1
  let x5_5 ← ldG 4 x2_2
  let x6_6 ← ldG 4 x3_3
  let x7_7 ← value_Compare x5_5 x6_6
  M.pure (x7_7 == 0)
theorem S_value_Same (x0 : Array Value) (x1 : Array Value) : Sound Go.Proofs.Tryz.prog 15 #[.agg x0,.agg x1] (fun (r : Bool)=>.bool r) (value_Same x0 x1):=by
  refine sound_of [(0,.agg x0),(1,.agg x1)] Go.Proofs.Tryz.func15 rfl rfl (Nat.le_of_ble_eq_true rfl) (args_of ⟨rfl,rfl,trivial⟩) (fun w0 w Q R a hret hE hR H=>?_)
  unfold value_Same at H
  refine w_seq (fun K hK_1=>?_)
  refine t_region ?_
  obtain ⟨x2_2,qx2_2,H⟩:=H
  refine t_valh (v:=.pointer (some x2_2)) rfl rfl hE rfl hR (r_box hE rfl qx2_2) (fun a w hE hR hh=>?_)
  replace H:=M.at hh H; clear hh
  obtain ⟨x3_3,qx3_3,H⟩:=H
  refine t_valh (v:=.pointer (some x3_3)) rfl rfl hE rfl hR (r_box hE rfl qx3_3) (fun a w hE hR hh=>?_)
  replace H:=M.at hh H; clear hh
  refine t_val (v:=.bool false) rfl rfl hE rfl (r_assign hE rfl) (fun a hE=>?_)
  refine t_nil ?_
  refine hK_1 _ _ ?_
  refine w_seq (fun K hK_4=>?_)
  refine t_region ?_
  obtain ⟨x5_5,qx5_5,H⟩:=H
  refine t_val (v:=.agg x5_5) rfl rfl hE rfl (r_loadG hE rfl ag24 qx5_5) (fun a hE=>?_)
  obtain ⟨x6_6,qx6_6,H⟩:=H
  refine t_val (v:=.agg x6_6) rfl rfl hE rfl (r_loadG hE rfl ag24 qx6_6) (fun a hE=>?_)
  refine t_call hE hR cl_value_Compare rfl (S_value_Compare x5_5 x6_6) (M.unbind H) (fun x7_7 a w ea hR H=>?_)
  have hE:=Env.put_some hE rfl ea; clear ea
  refine t_val (v:=.bool (x7_7 == 0)) rfl rfl hE rfl (r_bin hE rfl rfl g_int b_eql) (fun a hE=>?_)
  refine t_val (v:=.bool (x7_7 == 0)) rfl rfl hE rfl (r_assign hE rfl) (fun a hE=>?_)
  refine t_nil ?_
  refine hK_4 _ _ ?_
  refine w_ret ?_
  exact hret _ _ _ (x7_7 == 0) _ hE hR (res_run hE rfl (RV.tmp rfl RV.nil)) rfl H

def slices_AppendSeq_slslapi_Value_slapi_Value_y1 (c2_5 : Addr) (lp1 : Nat) : (Sl) → M Nat:=fun x=>match x with
  | x7_6=>do
    let _ ← beg lp1
    let x8_7 ← ldL c2_5
    let x10_8 ← bdL ty_sl_api_Value 1 #[(x7_6 : Sl).v]
    let x11_9 ← apL ty_sl_api_Value 1 24 (#[.slice none 0 0] : Array Value) x8_7 x10_8
    stV c2_5 ((x11_9 : Sl).v)
    M.pure 0
def slices_AppendSeq_slslapi_Value_slapi_Value (x0 : Sl) (x1 : Value) : M (Sl):=do
  let x2_2 ← mkB ty_sl_sl_api_Value #[(x0 : Sl).v]
  let j_11 ← rgF Go.Proofs.Tryz.prog (fun x : Sl=>[(x : Sl).v]) [] (slices_AppendSeq_slslapi_Value_slapi_Value_y1 x2_2) x1
  let x12_13 ← ldL x2_2
  let _ ← shut (j_11.2 :: [])
  M.pure x12_13
theorem S_slices_AppendSeq_slslapi_Value_slapi_Value (x0 : Sl) (x1 : Value) : Sound Go.Proofs.Tryz.prog 135 #[(x0 : Sl).v,x1] (fun (r : Sl)=>(r : Sl).v) (slices_AppendSeq_slslapi_Value_slapi_Value x0 x1):=by
  refine sound_ofM [(0,(x0 : Sl).v),(1,x1)] Go.Proofs.Tryz.func135 rfl rfl (Nat.le_of_ble_eq_true rfl) (args_of ⟨rfl,rfl,trivial⟩) (fun w0 w Q R a hret hE hR H=>?_)
  unfold slices_AppendSeq_slslapi_Value_slapi_Value at H
  refine w_seq (fun K hK_1=>?_)
  refine t_region ?_
  obtain ⟨x2_2,qx2_2,H⟩:=H
  refine t_valh (v:=.pointer (some x2_2)) rfl rfl hE rfl hR (r_box hE rfl qx2_2) (fun a w hE hR hh=>?_)
  replace H:=M.at hh H; clear hh
  refine t_val (v:=(Sl.nil : Sl).v) rfl rfl hE rfl (r_assign hE rfl) (fun a hE=>?_)
  refine t_nil ?_
  refine hK_1 _ _ ?_
  refine w_seq (fun K hK_3=>?_)
  refine w_seq (fun K hK_4=>?_)
  refine t_region ?_
  refine t_val (v:=x1) rfl rfl hE rfl (r_move hE rfl) (fun a hE=>?_)
  refine t_nil ?_
  refine hK_4 _ _ ?_
  refine w_block ?_
  refine w_rangeF (js:=[]) (enc:=(fun x : Sl=>[(x : Sl).v])) (Y:=(slices_AppendSeq_slslapi_Value_slapi_Value_y1 x2_2)) hE hR rfl (fun x=>rfl) rfl (M.unbind H) (fun lp1 x7_6 Q w0 Rr hfin a w hE hR H=>?_) (fun j_11 a w hE hR H=>?_)
  · skip
    replace hE : Env (⟨13,[]⟩ : Frm) a [(2,.pointer (some x2_2)),(7,(x7_6 : Sl).v)]:=Env.cut hE (.cons rfl (.cons rfl Subs.nil))
    replace H : (slices_AppendSeq_slslapi_Value_slapi_Value_y1 x2_2 lp1 x7_6).wp w.heap Q:=H
    unfold slices_AppendSeq_slslapi_Value_slapi_Value_y1 at H
    refine t_region ?_
    refine t_val (v:=(x7_6 : Sl).v) rfl rfl hE rfl (r_assign hE rfl) (fun a hE=>?_)
    refine t_nil ?_
    refine beg_w hR H (fun w hR H=>?_)
    refine w_block ?_
    refine t_region ?_
    obtain ⟨x8_7,qx8_7,H⟩:=H
    refine t_val (v:=(x8_7 : Sl).v) rfl rfl hE rfl (r_load hE rfl sc89 qx8_7) (fun a hE=>?_)
    refine t_val (v:=(x7_6 : Sl).v) rfl rfl hE rfl (r_move hE rfl) (fun a hE=>?_)
    obtain ⟨x10_8,qx10_8,H⟩:=H
    refine t_valh (v:=(x10_8 : Sl).v) rfl rfl hE rfl hR (r_buildL (cells:=#[(x7_6 : Sl).v]) hE rfl un89 sz22 zr22 rfl rfl qx10_8) (fun a w hE hR hh=>?_)
    replace H:=M.at hh H; clear hh
    refine t_ex (fun x11_9=>(x11_9 : Sl).v) rfl rfl hR (M.unbind H) (fun Q H=>ap_run hE rfl rfl ap89 H) (fun x11_9 a w ea hR H=>?_)
    have hE:=Env.put_some hE rfl ea; clear ea
    obtain ⟨u_10,qu_10,H⟩:=H
    refine t_sth rfl rfl hE hR (r_store hE rfl rfl sz89 qu_10) (fun a w hE hR hh=>?_)
    replace H:=M.at hh H; clear hh
    refine t_nil ?_
    exact hfin 0 _ _ hR H
  · skip
    replace hE : Env (⟨13,(j_11.2 :: [])⟩ : Frm) a [(2,.pointer (some x2_2)),(4,(Sl.nil : Sl).v)]:=Env.cut hE (.cons rfl (.cons rfl Subs.nil))
    refine jgo_nil ?_
    refine hK_3 _ _ ?_
    refine w_seq (fun K hK_12=>?_)
    refine t_region ?_
    obtain ⟨x12_13,qx12_13,H⟩:=H
    refine t_val (v:=(x12_13 : Sl).v) rfl rfl hE rfl (r_load hE rfl sc89 qx12_13) (fun a hE=>?_)
    refine t_val (v:=(x12_13 : Sl).v) rfl rfl hE rfl (r_assign hE rfl) (fun a hE=>?_)
    refine t_nil ?_
    refine hK_12 _ _ ?_
    refine w_ret ?_
    refine hret _ _ _ _ _ hE hR (M.unbind H) (fun w hR H=>?_)
    exact ⟨x12_13,_,res_run hE rfl (RV.tmp rfl RV.nil),rfl,H⟩

def slices_Collect_slapi_Value (x0 : Value) : M (Sl):=do
  let x4_3 ← slices_AppendSeq_slslapi_Value_slapi_Value Sl.nil x0
  M.pure x4_3
theorem S_slices_Collect_slapi_Value (x0 : Value) : Sound Go.Proofs.Tryz.prog 77 #[x0] (fun (r : Sl)=>(r : Sl).v) (slices_Collect_slapi_Value x0):=by
  refine sound_of [(0,x0)] Go.Proofs.Tryz.func77 rfl rfl (Nat.le_of_ble_eq_true rfl) (args_of ⟨rfl,trivial⟩) (fun w0 w Q R a hret hE hR H=>?_)
  unfold slices_Collect_slapi_Value at H
  refine w_seq (fun K hK_1=>?_)
  refine t_region ?_
  refine t_val (v:=(Sl.nil : Sl).v) rfl rfl hE rfl (r_assign hE rfl) (fun a hE=>?_)
  refine t_nil ?_
  refine hK_1 _ _ ?_
  refine w_seq (fun K hK_2=>?_)
  refine t_region ?_
  refine t_val (v:=x0) rfl rfl hE rfl (r_move hE rfl) (fun a hE=>?_)
  refine t_call hE hR cl_slices_AppendSeq_slslapi_Value_slapi_Value rfl (S_slices_AppendSeq_slslapi_Value_slapi_Value Sl.nil x0) (M.unbind H) (fun x4_3 a w ea hR H=>?_)
  have hE:=Env.put_some hE rfl ea; clear ea
  refine t_val (v:=(x4_3 : Sl).v) rfl rfl hE rfl (r_assign hE rfl) (fun a hE=>?_)
  refine t_nil ?_
  refine hK_2 _ _ ?_
  refine w_ret ?_
  exact hret _ _ _ x4_3 _ hE hR (res_run hE rfl (RV.tmp rfl RV.nil)) rfl H

def slices_Chunk_slapi_Value_api_Value (x0 : Sl) (x1 : Int) : M (Value):=do
  let x2_2 ← mkB ty_sl_api_Value #[(x0 : Sl).v]
  let x3_3 ← mkB ty_int #[.int .i64 x1]
  let x5_6 ← ldI .i64 x3_3
  M.ite (decide (x5_6 < 1)) (do
    M.fail
    ) (do
    M.pure (Value.func (.func fn_slices_Chunk_slapi_Value_api_Value_1) #[] #[.pointer (some x2_2),.pointer (some x3_3)])
    )
theorem S_slices_Chunk_slapi_Value_api_Value (x0 : Sl) (x1 : Int) : Sound Go.Proofs.Tryz.prog 78 #[(x0 : Sl).v,.int .i64 x1] (fun (r : Value)=>r) (slices_Chunk_slapi_Value_api_Value x0 x1):=by
  refine sound_of [(0,(x0 : Sl).v),(1,.int .i64 x1)] Go.Proofs.Tryz.func78 rfl rfl (Nat.le_of_ble_eq_true rfl) (args_of ⟨rfl,rfl,trivial⟩) (fun w0 w Q R a hret hE hR H=>?_)
  unfold slices_Chunk_slapi_Value_api_Value at H
  refine w_seq (fun K hK_1=>?_)
  refine t_region ?_
  obtain ⟨x2_2,qx2_2,H⟩:=H
  refine t_valh (v:=.pointer (some x2_2)) rfl rfl hE rfl hR (r_box hE rfl qx2_2) (fun a w hE hR hh=>?_)
  replace H:=M.at hh H; clear hh
  obtain ⟨x3_3,qx3_3,H⟩:=H
  refine t_valh (v:=.pointer (some x3_3)) rfl rfl hE rfl hR (r_box hE rfl qx3_3) (fun a w hE hR hh=>?_)
  replace H:=M.at hh H; clear hh
  refine t_val (v:=Value.nilFunc) rfl rfl hE rfl (r_assign hE rfl) (fun a hE=>?_)
  refine t_nil ?_
  refine hK_1 _ _ ?_
  refine w_seq (fun K hK_4=>?_)
  refine w_seq (fun K hK_5=>?_)
  refine t_region ?_
  obtain ⟨x5_6,qx5_6,H⟩:=H
  refine t_val (v:=.int .i64 x5_6) rfl rfl hE rfl (r_load hE rfl sc3 qx5_6) (fun a hE=>?_)
  refine t_val (v:=.bool (decide (x5_6 < 1))) rfl rfl hE rfl (r_bin hE rfl rfl g_int b_lss) (fun a hE=>?_)
  refine t_nil ?_
  refine hK_5 _ _ ?_
  refine w_cond (decide (x5_6 < 1)) hE rfl (fun hb=>?_) (fun hb=>?_)
  · replace H:=M.ite_t hb H
    exact False.elim H
  · replace H:=M.ite_f hb H
    refine w_skip ?_
    refine hK_4 _ _ ?_
    refine w_seq (fun K hK_7=>?_)
    refine t_region ?_
    refine t_val (v:=(Value.func (.func fn_slices_Chunk_slapi_Value_api_Value_1) #[] #[.pointer (some x2_2),.pointer (some x3_3)])) rfl rfl hE rfl (r_makeFunc hE rfl) (fun a hE=>?_)
    refine t_val (v:=(Value.func (.func fn_slices_Chunk_slapi_Value_api_Value_1) #[] #[.pointer (some x2_2),.pointer (some x3_3)])) rfl rfl hE rfl (r_assign hE rfl) (fun a hE=>?_)
    refine t_nil ?_
    refine hK_7 _ _ ?_
    refine w_ret ?_
    exact hret _ _ _ (Value.func (.func fn_slices_Chunk_slapi_Value_api_Value_1) #[] #[.pointer (some x2_2),.pointer (some x3_3)]) _ hE hR (res_run hE rfl (RV.tmp rfl RV.nil)) rfl H

end Gx
