/- Printed by program: Go functions as Lean programs, each tied to its code. No condition. -/
import Derived.Test.YthelieedlghccaaGreatDoorP0
import Derived.Test.YthelieedlghccaaGreatDoorP1
import Derived.Test.YthelieedlghccaaGreatDoorP2
import Derived.Test.YthelieedlghccaaGreatDoorP3
import Derived.Test.YthelieedlghccaaGreatDoorP4
set_option linter.unusedVariables false
set_option linter.unusedSimpArgs false
namespace Gx
open Go
set_option linter.unusedVariables false
set_option maxRecDepth 100000
theorem tb20_8 : tabAt Go.Proofs.Tryz.f20 8 [[],[],[1],[0,2],[3],[4],[5],[],[],[7,8],[9],[10],[11],[6,12]] [[],[],[1],[0,2],[3],[4],[5],[],[],[7,8],[9],[10],[11],[6,12]] [[],[],[1],[0,1,2],[0,1,2,3],[0,1,2,3,4],[0,1,2,3,4,5],[],[],[7,8],[7,8,9],[7,8,9,10],[7,8,9,10,11],[0,1,2,3,4,5,6,7,8,9,10,11,12]] = true:=by kernel_rfl
def value_Map_l1 (c2_16 : Addr) (c4_17 : Sl) (self1 : (Int) → M (Array Value × Int)) : (Int) → M (Array Value × Int):=fun s=>match s with
  | x5_15=>do
    M.ite (decide (x5_15 < (c4_17.len : Int))) (do
      let x25_23 ← ixL c4_17 (IntKind.wrap .i64 (x5_15 - 1)) 1
      let x31_24 ← ixL c4_17 x5_15 1
      let x26_25 ← ldL x25_23
      let x27_26 ← ixL x26_25 0 4
      let x28_27 ← ldG 4 x27_26
      let x32_28 ← ldL x31_24
      let x33_29 ← ixL x32_28 0 4
      let x34_30 ← ldG 4 x33_29
      let x35_31 ← value_Same x28_27 x34_30
      M.ite x35_31 (do
        M.need ((#[.int .i64 0,.int .i64 0,.string ByteArray.empty,.slice none 0 0] : Array Value).size = 4)
        stG c2_16 (#[.int .i64 0,.int .i64 0,.string ByteArray.empty,.slice none 0 0] : Array Value)
        let r2_34 ← ldG 4 c2_16
        M.pure (r2_34,5)
        ) (do
        self1 (IntKind.wrap .i64 (x5_15 + 1))
        )
      ) (do
      let x38_36 ← slices_Concat_slapi_Value_api_Value c4_17
      let x40_37 ← value_made (#[.int .i64 5,.int .i64 0,.string ByteArray.empty,(x38_36 : Sl).v] : Array Value)
      M.need (x40_37.1.size = 4)
      stG c2_16 x40_37.1
      let r2_39 ← ldG 4 c2_16
      M.pure (r2_39,x40_37.2)
      )
def value_Map (x0 : Sl) : M (Array Value × Int):=do
  let x2_2 ← mkB ty_api_Value (#[.int .i64 0,.int .i64 0,.string ByteArray.empty,.slice none 0 0] : Array Value)
  M.ite ((Int.tmod (x0.len : Int) 2) == 1) (do
    M.need ((#[.int .i64 0,.int .i64 0,.string ByteArray.empty,.slice none 0 0] : Array Value).size = 4)
    stG x2_2 (#[.int .i64 0,.int .i64 0,.string ByteArray.empty,.slice none 0 0] : Array Value)
    let r2_7 ← ldG 4 x2_2
    M.pure (r2_7,1)
    ) (do
    let x12_9 ← slices_Chunk_slapi_Value_api_Value x0 2
    let x13_10 ← slices_Collect_slapi_Value x12_9
    let x15_12 ← slices_SortStableFunc_slslapi_Value_slapi_Value x13_10 (Value.func (.func fn_value_Map_1) #[] #[])
    M.loop (value_Map_l1 x2_2 x13_10) 1
    )
theorem S_value_Map (x0 : Sl) : Sound Go.Proofs.Tryz.prog 20 #[(x0 : Sl).v] (fun (r : Array Value × Int)=>.tuple #[.agg r.1,.int .i64 r.2]) (value_Map x0):=by
  refine sound_of [(0,(x0 : Sl).v)] Go.Proofs.Tryz.func20 rfl rfl (Nat.le_of_ble_eq_true rfl) (args_of ⟨rfl,trivial⟩) (fun w0 w Q R a hret hE hR H=>?_)
  unfold value_Map at H
  refine w_seq (fun K hK_1=>?_)
  refine t_region ?_
  obtain ⟨x2_2,qx2_2,H⟩:=H
  refine t_valh (v:=.pointer (some x2_2)) rfl rfl hE rfl hR (r_alloc zr24 qx2_2) (fun a w hE hR hh=>?_)
  replace H:=M.at hh H; clear hh
  refine t_val (v:=.int .i64 0) rfl rfl hE rfl (r_assign hE rfl) (fun a hE=>?_)
  refine t_nil ?_
  refine hK_1 _ _ ?_
  refine w_seq (fun K hK_3=>?_)
  refine w_seq (fun K hK_4=>?_)
  refine t_region ?_
  refine t_val (v:=(x0 : Sl).v) rfl rfl hE rfl (r_move hE rfl) (fun a hE=>?_)
  refine t_val (v:=.int .i64 (x0.len : Int)) rfl rfl hE rfl (r_len hE rfl 24 un22) (fun a hE=>?_)
  refine t_val (v:=.int .i64 (Int.tmod (x0.len : Int) 2)) rfl rfl hE rfl (r_bin hE rfl rfl g_int (b_rem ⟨by decide,rfl⟩)) (fun a hE=>?_)
  refine t_val (v:=.bool ((Int.tmod (x0.len : Int) 2) == 1)) rfl rfl hE rfl (r_bin hE rfl rfl g_int b_eql) (fun a hE=>?_)
  refine t_nil ?_
  refine hK_4 _ _ ?_
  refine w_cond ((Int.tmod (x0.len : Int) 2) == 1) hE rfl (fun hb=>?_) (fun hb=>?_)
  · replace H:=M.ite_t hb H
    refine w_seq (fun K hK_5=>?_)
    refine t_region ?_
    refine t_val (v:=.agg (#[.int .i64 0,.int .i64 0,.string ByteArray.empty,.slice none 0 0] : Array Value)) rfl rfl hE rfl (r_build0 bd24) (fun a hE=>?_)
    obtain ⟨qz,H⟩:=H
    obtain ⟨u_6,qu_6,H⟩:=H
    refine t_sth rfl rfl hE hR (r_storeG hE rfl rfl sz24 qz qu_6) (fun a w hE hR hh=>?_)
    replace H:=M.at hh H; clear hh
    refine t_val (v:=.int .i64 1) rfl rfl hE rfl (r_assign hE rfl) (fun a hE=>?_)
    refine t_nil ?_
    refine hK_5 _ _ ?_
    refine w_ret ?_
    obtain ⟨r2_7,qr2_7,H⟩:=H
    exact hret _ _ _ (r2_7,1) _ hE hR (res_run hE rfl (RV.cellG rfl ag24 qr2_7 (RV.tmp rfl RV.nil))) rfl H
  · replace H:=M.ite_f hb H
    refine w_skip ?_
    refine hK_3 _ _ ?_
    refine w_seq (fun K hK_8=>?_)
    refine t_region ?_
    refine t_val (v:=(x0 : Sl).v) rfl rfl hE rfl (r_move hE rfl) (fun a hE=>?_)
    refine t_call hE hR cl_slices_Chunk_slapi_Value_api_Value rfl (S_slices_Chunk_slapi_Value_api_Value x0 2) (M.unbind H) (fun x12_9 a w ea hR H=>?_)
    have hE:=Env.put_some hE rfl ea; clear ea
    refine t_call hE hR cl_slices_Collect_slapi_Value rfl (S_slices_Collect_slapi_Value x12_9) (M.unbind H) (fun x13_10 a w ea hR H=>?_)
    have hE:=Env.put_some hE rfl ea; clear ea
    refine t_val (v:=(x13_10 : Sl).v) rfl rfl hE rfl (r_assign hE rfl) (fun a hE=>?_)
    refine t_nil ?_
    refine hK_8 _ _ ?_
    refine w_seq (fun K hK_11=>?_)
    refine t_region ?_
    refine t_val (v:=(x13_10 : Sl).v) rfl rfl hE rfl (r_move hE rfl) (fun a hE=>?_)
    refine t_call hE hR cl_slices_SortStableFunc_slslapi_Value_slapi_Value rfl (S_slices_SortStableFunc_slslapi_Value_slapi_Value x13_10 (Value.func (.func fn_value_Map_1) #[] #[])) (M.unbind H) (fun x15_12 a w ea hR H=>?_)
    have hE:=Env.put_some hE rfl ea; clear ea
    refine t_nil ?_
    refine hK_11 _ _ ?_
    refine w_seq (fun K hK_13=>?_)
    refine w_seq (fun K hK_14=>?_)
    refine t_region ?_
    refine t_val (v:=.int .i64 1) rfl rfl hE rfl (r_assign hE rfl) (fun a hE=>?_)
    refine t_nil ?_
    refine hK_14 _ _ ?_
    refine w_block ?_
    refine l_loop (fun (s : Int)=>(⟨43,[]⟩ : Frm)) (fun (s : Int)=>[(2,.pointer (some x2_2)),(4,(x13_10 : Sl).v),(5,.int .i64 s)]) H (hE.cut (.cons rfl (.cons rfl (.cons rfl Subs.nil)))) hR (fun Y self1 hY_18 x5_15 a w hE hR H=>?_)
    replace hE : Env (⟨43,[]⟩ : Frm) a [(2,.pointer (some x2_2)),(4,(x13_10 : Sl).v),(5,.int .i64 x5_15)]:=hE
    replace H : (value_Map_l1 x2_2 x13_10 self1 x5_15).wp w.heap Q:=H
    unfold value_Map_l1 at H
    refine w_seq (fun K hK_19=>?_)
    refine w_seq (fun K hK_20=>?_)
    refine t_region ?_
    refine t_val (v:=.int .i64 x5_15) rfl rfl hE rfl (r_move hE rfl) (fun a hE=>?_)
    refine t_val (v:=(x13_10 : Sl).v) rfl rfl hE rfl (r_move hE rfl) (fun a hE=>?_)
    refine t_val (v:=.int .i64 (x13_10.len : Int)) rfl rfl hE rfl (r_len hE rfl 22 un89) (fun a hE=>?_)
    refine t_val (v:=.bool (decide (x5_15 < (x13_10.len : Int)))) rfl rfl hE rfl (r_bin hE rfl rfl g_int b_lss) (fun a hE=>?_)
    refine t_nil ?_
    refine hK_20 _ _ ?_
    refine w_cond (decide (x5_15 < (x13_10.len : Int))) hE rfl (fun hb=>?_) (fun hb=>?_)
    · replace H:=M.ite_t hb H
      refine w_skip ?_
      refine hK_19 _ _ ?_
      refine w_seq (fun K hK_21=>?_)
      refine w_block ?_
      refine w_seq (fun K hK_22=>?_)
      obtain ⟨x25_23,qx25_23,H⟩:=H
      obtain ⟨x31_24,qx31_24,H⟩:=H
      obtain ⟨x26_25,qx26_25,H⟩:=H
      obtain ⟨x27_26,qx27_26,H⟩:=H
      obtain ⟨x28_27,qx28_27,H⟩:=H
      obtain ⟨x32_28,qx32_28,H⟩:=H
      obtain ⟨x33_29,qx33_29,H⟩:=H
      obtain ⟨x34_30,qx34_30,H⟩:=H
      have hT:=tab_of tb20_8 rfl rfl
      refine d_start (fun w : World=>(fun h : Heap=>(hcell h x25_23 = some ((x26_25 : Sl).v)) ∧ (x28_27.size = 4 ∧ ∀ i,i < 4 → hcell h (Addr.add x27_26 i) = x28_27[i]?) ∧ (hcell h x31_24 = some ((x32_28 : Sl).v)) ∧ (x34_30.size = 4 ∧ ∀ i,i < 4 → hcell h (Addr.add x33_29 i) = x34_30[i]?)) w.heap) [13] #[false,false,false,false,false,false,false,false,false,false,false,false,false,false] mo hR rfl rfl (fun w' e=>by rw [e]; exact ⟨qx26_25,qx28_27,qx32_28,qx34_30⟩) (fun w hh hR hs=>?_)
      replace H:=M.at hh H; clear hh
      refine d_pureg (i:=0) (v:=(x13_10 : Sl).v) #[true,false,false,false,false,false,false,false,false,false,false,false,false,false] rfl rfl hT (by kernel_rfl) hE rfl (wanted_none rfl) (fun w=>r_move hE rfl) (fun a hE=>?_)
      refine d_pureg (i:=1) (v:=.int .i64 x5_15) #[true,true,false,false,false,false,false,false,false,false,false,false,false,false] rfl rfl hT (by kernel_rfl) hE rfl (wanted_none rfl) (fun w=>r_move hE rfl) (fun a hE=>?_)
      refine d_pureg (i:=2) (v:=.int .i64 (IntKind.wrap .i64 (x5_15 - 1))) #[true,true,true,false,false,false,false,false,false,false,false,false,false,false] rfl rfl hT (by kernel_rfl) hE rfl (wanted_none rfl) (fun w=>r_bin hE rfl rfl g_int b_sub) (fun a hE=>?_)
      refine d_pureg (i:=3) (v:=.pointer (some x25_23)) #[true,true,true,true,false,false,false,false,false,false,false,false,false,false] rfl rfl hT (by kernel_rfl) hE rfl (wanted_none rfl) (fun w=>r_indexAddrL hE rfl rfl un89 sz22 qx25_23) (fun a hE=>?_)
      refine d_pureg (i:=7) (v:=(x13_10 : Sl).v) #[true,true,true,true,false,false,false,true,false,false,false,false,false,false] rfl rfl hT (by kernel_rfl) hE rfl (wanted_none rfl) (fun w=>r_move hE rfl) (fun a hE=>?_)
      refine d_pureg (i:=8) (v:=.int .i64 x5_15) #[true,true,true,true,false,false,false,true,true,false,false,false,false,false] rfl rfl hT (by kernel_rfl) hE rfl (wanted_none rfl) (fun w=>r_move hE rfl) (fun a hE=>?_)
      refine d_pureg (i:=9) (v:=.pointer (some x31_24)) #[true,true,true,true,false,false,false,true,true,true,false,false,false,false] rfl rfl hT (by kernel_rfl) hE rfl (wanted_none rfl) (fun w=>r_indexAddrL hE rfl rfl un89 sz22 qx31_24) (fun a hE=>?_)
      refine d_read (i:=4) (v:=(x26_25 : Sl).v) #[true,true,true,true,true,false,false,true,true,true,false,false,false,false] rfl rfl hT (by kernel_rfl) hE rfl (wanted_none rfl) hs (fun w s=>r_load hE rfl sc22 s.1) (fun a hE=>?_)
      refine d_pureg (i:=5) (v:=.pointer (some x27_26)) #[true,true,true,true,true,true,false,true,true,true,false,false,false,false] rfl rfl hT (by kernel_rfl) hE rfl (wanted_none rfl) (fun w=>r_indexAddrL hE rfl rfl un22 sz24 qx27_26) (fun a hE=>?_)
      refine d_read (i:=6) (v:=.agg x28_27) #[true,true,true,true,true,true,true,true,true,true,false,false,false,false] rfl rfl hT (by kernel_rfl) hE rfl (wanted_none rfl) hs (fun w s=>r_loadG hE rfl ag24 s.2.1) (fun a hE=>?_)
      refine d_read (i:=10) (v:=(x32_28 : Sl).v) #[true,true,true,true,true,true,true,true,true,true,true,false,false,false] rfl rfl hT (by kernel_rfl) hE rfl (wanted_none rfl) hs (fun w s=>r_load hE rfl sc22 s.2.2.1) (fun a hE=>?_)
      refine d_pureg (i:=11) (v:=.pointer (some x33_29)) #[true,true,true,true,true,true,true,true,true,true,true,true,false,false] rfl rfl hT (by kernel_rfl) hE rfl (wanted_none rfl) (fun w=>r_indexAddrL hE rfl rfl un22 sz24 qx33_29) (fun a hE=>?_)
      refine d_read (i:=12) (v:=.agg x34_30) #[true,true,true,true,true,true,true,true,true,true,true,true,true,false] rfl rfl hT (by kernel_rfl) hE rfl (wanted_none rfl) hs (fun w s=>r_loadG hE rfl ag24 s.2.2.2) (fun a hE=>?_)
      refine d_calll (i:=13) #[true,true,true,true,true,true,true,true,true,true,true,true,true,true] rfl rfl rfl hT (by kernel_rfl) rfl hE hR (wanted_none rfl) cl_value_Same rfl (S_value_Same x28_27 x34_30) (M.unbind H) (fun x35_31 a w ea hR H=>?_)
      have hE:=Env.put_some hE rfl ea; clear ea
      refine d_done hT (by kernel_rfl) ?_
      refine hK_22 _ _ ?_
      refine w_cond x35_31 hE rfl (fun hb=>?_) (fun hb=>?_)
      · replace H:=M.ite_t hb H
        refine w_seq (fun K hK_32=>?_)
        refine t_region ?_
        refine t_val (v:=.agg (#[.int .i64 0,.int .i64 0,.string ByteArray.empty,.slice none 0 0] : Array Value)) rfl rfl hE rfl (r_build0 bd24) (fun a hE=>?_)
        obtain ⟨qz,H⟩:=H
        obtain ⟨u_33,qu_33,H⟩:=H
        refine t_sth rfl rfl hE hR (r_storeG hE rfl rfl sz24 qz qu_33) (fun a w hE hR hh=>?_)
        replace H:=M.at hh H; clear hh
        refine t_val (v:=.int .i64 5) rfl rfl hE rfl (r_assign hE rfl) (fun a hE=>?_)
        refine t_nil ?_
        refine hK_32 _ _ ?_
        refine w_ret ?_
        obtain ⟨r2_34,qr2_34,H⟩:=H
        exact hret _ _ _ (r2_34,5) _ hE hR (res_run hE rfl (RV.cellG rfl ag24 qr2_34 (RV.tmp rfl RV.nil))) rfl H
      · replace H:=M.ite_f hb H
        refine w_skip ?_
        refine hK_21 _ _ ?_
        refine t_region ?_
        refine t_val (v:=.int .i64 x5_15) rfl rfl hE rfl (r_move hE rfl) (fun a hE=>?_)
        refine t_val (v:=.int .i64 (IntKind.wrap .i64 (x5_15 + 1))) rfl rfl hE rfl (r_bin hE rfl rfl g_int b_add) (fun a hE=>?_)
        refine t_val (v:=.int .i64 (IntKind.wrap .i64 (x5_15 + 1))) rfl rfl hE rfl (r_assign hE rfl) (fun a hE=>?_)
        refine t_nil ?_
        exact hY_18 (IntKind.wrap .i64 (x5_15 + 1)) _ _ (hE.cut (.cons rfl (.cons rfl (.cons rfl Subs.nil)))) hR H
    · replace H:=M.ite_f hb H
      refine w_exit ?_
      refine Xu.same ?_
      refine hK_13 _ _ ?_
      refine w_seq (fun K hK_35=>?_)
      refine t_region ?_
      refine t_val (v:=(x13_10 : Sl).v) rfl rfl hE rfl (r_move hE rfl) (fun a hE=>?_)
      refine t_call hE hR cl_slices_Concat_slapi_Value_api_Value rfl (S_slices_Concat_slapi_Value_api_Value x13_10) (M.unbind H) (fun x38_36 a w ea hR H=>?_)
      have hE:=Env.put_some hE rfl ea; clear ea
      refine t_val (v:=.agg (#[.int .i64 5,.int .i64 0,.string ByteArray.empty,(x38_36 : Sl).v] : Array Value)) rfl rfl hE rfl (r_build hE rfl zr24 pl24 (by rfl)) (fun a hE=>?_)
      refine t_call hE hR cl_value_made rfl (S_value_made (#[.int .i64 5,.int .i64 0,.string ByteArray.empty,(x38_36 : Sl).v] : Array Value)) (M.unbind H) (fun x40_37 a w ea hR H=>?_)
      have hE:=Env.put_some hE rfl ea; clear ea
      refine t_val (v:=.agg x40_37.1) rfl rfl hE rfl (r_extract hE rfl rfl) (fun a hE=>?_)
      refine t_val (v:=.int .i64 x40_37.2) rfl rfl hE rfl (r_extract hE rfl rfl) (fun a hE=>?_)
      obtain ⟨qz,H⟩:=H
      obtain ⟨u_38,qu_38,H⟩:=H
      refine t_sth rfl rfl hE hR (r_storeG hE rfl rfl sz24 qz qu_38) (fun a w hE hR hh=>?_)
      replace H:=M.at hh H; clear hh
      refine t_val (v:=.int .i64 x40_37.2) rfl rfl hE rfl (r_assign hE rfl) (fun a hE=>?_)
      refine t_nil ?_
      refine hK_35 _ _ ?_
      refine w_ret ?_
      obtain ⟨r2_39,qr2_39,H⟩:=H
      exact hret _ _ _ (r2_39,x40_37.2) _ hE hR (res_run hE rfl (RV.cellG rfl ag24 qr2_39 (RV.tmp rfl RV.nil))) rfl H

def value_Int (x0 : Int) : M (Array Value):=do
  let x2_2 ← mkB ty_api_Value (#[.int .i64 0,.int .i64 0,.string ByteArray.empty,.slice none 0 0] : Array Value)
  M.need ((#[.int .i64 1,.int .i64 x0,.string ByteArray.empty,.slice none 0 0] : Array Value).size = 4)
  stG x2_2 (#[.int .i64 1,.int .i64 x0,.string ByteArray.empty,.slice none 0 0] : Array Value)
  let r2_5 ← ldG 4 x2_2
  M.pure r2_5
theorem S_value_Int (x0 : Int) : Sound Go.Proofs.Tryz.prog 26 #[.int .i64 x0] (fun (r : Array Value)=>.agg r) (value_Int x0):=by
  refine sound_of [(0,.int .i64 x0)] Go.Proofs.Tryz.func26 rfl rfl (Nat.le_of_ble_eq_true rfl) (args_of ⟨rfl,trivial⟩) (fun w0 w Q R a hret hE hR H=>?_)
  unfold value_Int at H
  refine w_seq (fun K hK_1=>?_)
  refine t_region ?_
  obtain ⟨x2_2,qx2_2,H⟩:=H
  refine t_valh (v:=.pointer (some x2_2)) rfl rfl hE rfl hR (r_alloc zr24 qx2_2) (fun a w hE hR hh=>?_)
  replace H:=M.at hh H; clear hh
  refine t_nil ?_
  refine hK_1 _ _ ?_
  refine w_seq (fun K hK_3=>?_)
  refine t_region ?_
  refine t_val (v:=.int .i64 x0) rfl rfl hE rfl (r_move hE rfl) (fun a hE=>?_)
  refine t_val (v:=.agg (#[.int .i64 1,.int .i64 x0,.string ByteArray.empty,.slice none 0 0] : Array Value)) rfl rfl hE rfl (r_build hE rfl zr24 pl24 (by rfl)) (fun a hE=>?_)
  obtain ⟨qz,H⟩:=H
  obtain ⟨u_4,qu_4,H⟩:=H
  refine t_sth rfl rfl hE hR (r_storeG hE rfl rfl sz24 qz qu_4) (fun a w hE hR hh=>?_)
  replace H:=M.at hh H; clear hh
  refine t_nil ?_
  refine hK_3 _ _ ?_
  refine w_ret ?_
  obtain ⟨r2_5,qr2_5,H⟩:=H
  exact hret _ _ _ r2_5 _ hE hR (res_run hE rfl (RV.cellG rfl ag24 qr2_5 RV.nil)) rfl H

def value_Str (x0 : ByteArray) : M (Array Value):=do
  let x2_2 ← mkB ty_api_Value (#[.int .i64 0,.int .i64 0,.string ByteArray.empty,.slice none 0 0] : Array Value)
  M.need ((#[.int .i64 2,.int .i64 0,.string x0,.slice none 0 0] : Array Value).size = 4)
  stG x2_2 (#[.int .i64 2,.int .i64 0,.string x0,.slice none 0 0] : Array Value)
  let r2_5 ← ldG 4 x2_2
  M.pure r2_5
theorem S_value_Str (x0 : ByteArray) : Sound Go.Proofs.Tryz.prog 28 #[.string x0] (fun (r : Array Value)=>.agg r) (value_Str x0):=by
  refine sound_of [(0,.string x0)] Go.Proofs.Tryz.func28 rfl rfl (Nat.le_of_ble_eq_true rfl) (args_of ⟨rfl,trivial⟩) (fun w0 w Q R a hret hE hR H=>?_)
  unfold value_Str at H
  refine w_seq (fun K hK_1=>?_)
  refine t_region ?_
  obtain ⟨x2_2,qx2_2,H⟩:=H
  refine t_valh (v:=.pointer (some x2_2)) rfl rfl hE rfl hR (r_alloc zr24 qx2_2) (fun a w hE hR hh=>?_)
  replace H:=M.at hh H; clear hh
  refine t_nil ?_
  refine hK_1 _ _ ?_
  refine w_seq (fun K hK_3=>?_)
  refine t_region ?_
  refine t_val (v:=.string x0) rfl rfl hE rfl (r_move hE rfl) (fun a hE=>?_)
  refine t_val (v:=.agg (#[.int .i64 2,.int .i64 0,.string x0,.slice none 0 0] : Array Value)) rfl rfl hE rfl (r_build hE rfl zr24 pl24 (by rfl)) (fun a hE=>?_)
  obtain ⟨qz,H⟩:=H
  obtain ⟨u_4,qu_4,H⟩:=H
  refine t_sth rfl rfl hE hR (r_storeG hE rfl rfl sz24 qz qu_4) (fun a w hE hR hh=>?_)
  replace H:=M.at hh H; clear hh
  refine t_nil ?_
  refine hK_3 _ _ ?_
  refine w_ret ?_
  obtain ⟨r2_5,qr2_5,H⟩:=H
  exact hret _ _ _ r2_5 _ hE hR (res_run hE rfl (RV.cellG rfl ag24 qr2_5 RV.nil)) rfl H

def value_Bool_j1 (c2_6 : Addr) (c3_7 : Addr) : M (Array Value):=do
  let x7_9 ← ldG 4 c3_7
  M.need (x7_9.size = 4)
  stG c2_6 x7_9
  let r2_11 ← ldG 4 c2_6
  M.pure r2_11
def value_Bool (x0 : Bool) : M (Array Value):=do
  let x2_2 ← mkB ty_api_Value (#[.int .i64 0,.int .i64 0,.string ByteArray.empty,.slice none 0 0] : Array Value)
  let x3_4 ← mkB ty_api_Value (#[.int .i64 0,.int .i64 0,.string ByteArray.empty,.slice none 0 0] : Array Value)
  M.need ((#[.int .i64 3,.int .i64 0,.string ByteArray.empty,.slice none 0 0] : Array Value).size = 4)
  stG x3_4 (#[.int .i64 3,.int .i64 0,.string ByteArray.empty,.slice none 0 0] : Array Value)
  M.ite x0 (do
    stV ((x3_4).add 1) (.int .i64 1)
    value_Bool_j1 x2_2 x3_4
    ) (do
    value_Bool_j1 x2_2 x3_4
    )
theorem S_value_Bool (x0 : Bool) : Sound Go.Proofs.Tryz.prog 34 #[.bool x0] (fun (r : Array Value)=>.agg r) (value_Bool x0):=by
  refine sound_of [(0,.bool x0)] Go.Proofs.Tryz.func34 rfl rfl (Nat.le_of_ble_eq_true rfl) (args_of ⟨rfl,trivial⟩) (fun w0 w Q R a hret hE hR H=>?_)
  unfold value_Bool at H
  refine w_seq (fun K hK_1=>?_)
  refine t_region ?_
  obtain ⟨x2_2,qx2_2,H⟩:=H
  refine t_valh (v:=.pointer (some x2_2)) rfl rfl hE rfl hR (r_alloc zr24 qx2_2) (fun a w hE hR hh=>?_)
  replace H:=M.at hh H; clear hh
  refine t_nil ?_
  refine hK_1 _ _ ?_
  refine w_seq (fun K hK_3=>?_)
  refine t_region ?_
  refine t_val (v:=.agg (#[.int .i64 3,.int .i64 0,.string ByteArray.empty,.slice none 0 0] : Array Value)) rfl rfl hE rfl (r_build hE rfl zr24 pl24 (by rfl)) (fun a hE=>?_)
  obtain ⟨x3_4,qx3_4,H⟩:=H
  refine t_valh (v:=.pointer (some x3_4)) rfl rfl hE rfl hR (r_alloc zr24 qx3_4) (fun a w hE hR hh=>?_)
  replace H:=M.at hh H; clear hh
  obtain ⟨qz,H⟩:=H
  obtain ⟨u_5,qu_5,H⟩:=H
  refine t_sth rfl rfl hE hR (r_storeG hE rfl rfl sz24 qz qu_5) (fun a w hE hR hh=>?_)
  replace H:=M.at hh H; clear hh
  refine t_nil ?_
  refine hK_3 _ _ ?_
  refine w_seq_join (fun a w=>Env (⟨8,[]⟩ : Frm) a [(2,.pointer (some x2_2)),(3,.pointer (some x3_4))] ∧ Rest w0 w ∧ (value_Bool_j1 x2_2 x3_4).wp w.heap Q) ?_ ?_
  · rintro a w ⟨hE,hR,H⟩
    unfold value_Bool_j1 at H
    refine w_seq (fun K hK_8=>?_)
    refine t_region ?_
    obtain ⟨x7_9,qx7_9,H⟩:=H
    refine t_val (v:=.agg x7_9) rfl rfl hE rfl (r_loadG hE rfl ag24 qx7_9) (fun a hE=>?_)
    obtain ⟨qz,H⟩:=H
    obtain ⟨u_10,qu_10,H⟩:=H
    refine t_sth rfl rfl hE hR (r_storeG hE rfl rfl sz24 qz qu_10) (fun a w hE hR hh=>?_)
    replace H:=M.at hh H; clear hh
    refine t_nil ?_
    refine hK_8 _ _ ?_
    refine w_ret ?_
    obtain ⟨r2_11,qr2_11,H⟩:=H
    exact hret _ _ _ r2_11 _ hE hR (res_run hE rfl (RV.cellG rfl ag24 qr2_11 RV.nil)) rfl H
  · skip
    refine w_seq (fun K hK_12=>?_)
    refine t_region ?_
    refine t_val (v:=.bool x0) rfl rfl hE rfl (r_move hE rfl) (fun a hE=>?_)
    refine t_nil ?_
    refine hK_12 _ _ ?_
    refine w_cond x0 hE rfl (fun hb=>?_) (fun hb=>?_)
    · replace H:=M.ite_t hb H
      refine t_region ?_
      refine t_val (v:=.pointer (some ((x3_4).add 1))) rfl rfl hE rfl (r_fieldAddr hE rfl fd24_1) (fun a hE=>?_)
      obtain ⟨u_13,qu_13,H⟩:=H
      refine t_sth rfl rfl hE hR (r_store hE rfl rfl sz2 qu_13) (fun a w hE hR hh=>?_)
      replace H:=M.at hh H; clear hh
      refine t_nil ?_
      exact ⟨hE.cut (.cons rfl (.cons rfl Subs.nil)),hR,H⟩
    · replace H:=M.ite_f hb H
      refine w_skip ?_
      exact ⟨hE.cut (.cons rfl (.cons rfl Subs.nil)),hR,H⟩

def ramblelaw02_begun  : M (Bool):=do
  let x7_3 ← value_Str (⟨#[98]⟩ : ByteArray)
  let x8_4 ← value_Int 1
  let x9_5 ← value_Str (⟨#[97]⟩ : ByteArray)
  let x10_6 ← value_Bool true
  let y_8 ← fillL 4 4 (#[.int .i64 0,.int .i64 0,.string ByteArray.empty,.slice none 0 0] : Array Value) [(0,.agg x7_3),(1,.agg x8_4),(2,.agg x9_5),(3,.agg x10_6)]
  let x11_7 ← bdL ty_api_Value 4 y_8
  let x12_9 ← value_Map x11_7
  let x1_10 ← mkB ty_api_Value (#[.int .i64 0,.int .i64 0,.string ByteArray.empty,.slice none 0 0] : Array Value)
  M.need (x12_9.1.size = 4)
  stG x1_10 x12_9.1
  let x16_13 ← value_Parse (⟨#[123,39,97,39,58,32,116,114,117,101,44,32,39,98,39,58,32,49,125]⟩ : ByteArray)
  let x3_14 ← mkB ty_api_Value (#[.int .i64 0,.int .i64 0,.string ByteArray.empty,.slice none 0 0] : Array Value)
  M.need (x16_13.1.size = 4)
  stG x3_14 x16_13.1
  let x26_17 ← M.ite (x12_9.2 == 0) (do
    let x23_18 ← ldG 4 x1_10
    let x24_19 ← value_Text x23_18
    M.pure (sEq x24_19 (⟨#[123,39,97,39,58,32,116,114,117,101,44,32,39,98,39,58,32,49,125]⟩ : ByteArray))
    ) (do
    M.pure false
    )
  let x30_20 ← M.ite x26_17 (do
    M.pure (x16_13.2.2 == 0)
    ) (do
    M.pure false
    )
  let x34_21 ← M.ite x30_20 (do
    M.pure (x16_13.2.1 == 0)
    ) (do
    M.pure false
    )
  let x39_22 ← M.ite x34_21 (do
    let x36_23 ← ldG 4 x1_10
    let x37_24 ← ldG 4 x3_14
    let x38_25 ← rambleref02_Same x36_23 x37_24
    M.pure x38_25
    ) (do
    M.pure false
    )
  M.pure x39_22
theorem S_ramblelaw02_begun  : Sound Go.Proofs.Tryz.prog 14 #[] (fun (r : Bool)=>.bool r) (ramblelaw02_begun ):=by
  refine sound_of [] Go.Proofs.Tryz.func14 rfl rfl (Nat.le_of_ble_eq_true rfl) (args_of trivial) (fun w0 w Q R a hret hE hR H=>?_)
  unfold ramblelaw02_begun at H
  refine w_seq (fun K hK_1=>?_)
  refine t_region ?_
  refine t_val (v:=.bool false) rfl rfl hE rfl (r_assign hE rfl) (fun a hE=>?_)
  refine t_nil ?_
  refine hK_1 _ _ ?_
  refine w_seq (fun K hK_2=>?_)
  refine t_region ?_
  refine t_call hE hR cl_value_Str rfl (S_value_Str (⟨#[98]⟩ : ByteArray)) (M.unbind H) (fun x7_3 a w ea hR H=>?_)
  have hE:=Env.put_some hE rfl ea; clear ea
  refine t_call hE hR cl_value_Int rfl (S_value_Int 1) (M.unbind H) (fun x8_4 a w ea hR H=>?_)
  have hE:=Env.put_some hE rfl ea; clear ea
  refine t_call hE hR cl_value_Str rfl (S_value_Str (⟨#[97]⟩ : ByteArray)) (M.unbind H) (fun x9_5 a w ea hR H=>?_)
  have hE:=Env.put_some hE rfl ea; clear ea
  refine t_call hE hR cl_value_Bool rfl (S_value_Bool true) (M.unbind H) (fun x10_6 a w ea hR H=>?_)
  have hE:=Env.put_some hE rfl ea; clear ea
  obtain ⟨y_8,qy_8,H⟩:=H
  obtain ⟨x11_7,qx11_7,H⟩:=H
  refine t_valh (v:=(x11_7 : Sl).v) rfl rfl hE rfl hR (r_buildL hE rfl un22 sz24 zr24 rfl qy_8 qx11_7) (fun a w hE hR hh=>?_)
  replace H:=M.at hh H; clear hh
  refine t_call hE hR cl_value_Map rfl (S_value_Map x11_7) (M.unbind H) (fun x12_9 a w ea hR H=>?_)
  have hE:=Env.put_some hE rfl ea; clear ea
  refine t_val (v:=.tuple #[.agg x12_9.1,.int .i64 x12_9.2]) rfl rfl hE rfl (r_move hE rfl) (fun a hE=>?_)
  refine t_val (v:=.agg x12_9.1) rfl rfl hE rfl (r_extract hE rfl rfl) (fun a hE=>?_)
  refine t_val (v:=.int .i64 x12_9.2) rfl rfl hE rfl (r_extract hE rfl rfl) (fun a hE=>?_)
  obtain ⟨x1_10,qx1_10,H⟩:=H
  refine t_valh (v:=.pointer (some x1_10)) rfl rfl hE rfl hR (r_alloc zr24 qx1_10) (fun a w hE hR hh=>?_)
  replace H:=M.at hh H; clear hh
  obtain ⟨qz,H⟩:=H
  obtain ⟨u_11,qu_11,H⟩:=H
  refine t_sth rfl rfl hE hR (r_storeG hE rfl rfl sz24 qz qu_11) (fun a w hE hR hh=>?_)
  replace H:=M.at hh H; clear hh
  refine t_val (v:=.int .i64 x12_9.2) rfl rfl hE rfl (r_assign hE rfl) (fun a hE=>?_)
  refine t_nil ?_
  refine hK_2 _ _ ?_
  refine w_seq (fun K hK_12=>?_)
  refine t_region ?_
  refine t_call hE hR cl_value_Parse rfl (S_value_Parse (⟨#[123,39,97,39,58,32,116,114,117,101,44,32,39,98,39,58,32,49,125]⟩ : ByteArray)) (M.unbind H) (fun x16_13 a w ea hR H=>?_)
  have hE:=Env.put_some hE rfl ea; clear ea
  refine t_val (v:=.tuple #[.agg x16_13.1,.int .i64 x16_13.2.1,.int .i64 x16_13.2.2]) rfl rfl hE rfl (r_move hE rfl) (fun a hE=>?_)
  refine t_val (v:=.agg x16_13.1) rfl rfl hE rfl (r_extract hE rfl rfl) (fun a hE=>?_)
  refine t_val (v:=.int .i64 x16_13.2.1) rfl rfl hE rfl (r_extract hE rfl rfl) (fun a hE=>?_)
  refine t_val (v:=.int .i64 x16_13.2.2) rfl rfl hE rfl (r_extract hE rfl rfl) (fun a hE=>?_)
  obtain ⟨x3_14,qx3_14,H⟩:=H
  refine t_valh (v:=.pointer (some x3_14)) rfl rfl hE rfl hR (r_alloc zr24 qx3_14) (fun a w hE hR hh=>?_)
  replace H:=M.at hh H; clear hh
  obtain ⟨qz,H⟩:=H
  obtain ⟨u_15,qu_15,H⟩:=H
  refine t_sth rfl rfl hE hR (r_storeG hE rfl rfl sz24 qz qu_15) (fun a w hE hR hh=>?_)
  replace H:=M.at hh H; clear hh
  refine t_val (v:=.int .i64 x16_13.2.1) rfl rfl hE rfl (r_assign hE rfl) (fun a hE=>?_)
  refine t_val (v:=.int .i64 x16_13.2.2) rfl rfl hE rfl (r_assign hE rfl) (fun a hE=>?_)
  refine t_nil ?_
  refine hK_12 _ _ ?_
  refine w_seq (fun K hK_16=>?_)
  refine t_region ?_
  refine t_val (v:=.int .i64 x12_9.2) rfl rfl hE rfl (r_move hE rfl) (fun a hE=>?_)
  refine t_val (v:=.bool (x12_9.2 == 0)) rfl rfl hE rfl (r_bin hE rfl rfl g_int b_eql) (fun a hE=>?_)
  refine t_val (v:=.bool (x12_9.2 == 0)) rfl rfl hE rfl (r_move hE rfl) (fun a hE=>?_)
  refine t_grp (n:=(⟨40,[]⟩ : Frm)) (w0:=w0) 4 (fun x26_17 : Bool=>[(0,.bool false),(1,.pointer (some x1_10)),(3,.pointer (some x3_14)),(4,.int .i64 x16_13.2.1),(5,.int .i64 x16_13.2.2),(26,.bool x26_17)]) (M.unbind H) (fun Kr hKr H=>?_) ?_
  · rcases bool_em (x12_9.2 == 0) with hb | hb
    · replace H:=M.ite_t hb H
      have hE:=hE.reb 22 (x12_9.2 == 0) true hb rfl
      refine t_on rfl hE rfl rfl rfl ?_
      obtain ⟨x23_18,qx23_18,H⟩:=H
      refine t_val (v:=.agg x23_18) rfl rfl hE rfl (r_loadG hE rfl ag24 qx23_18) (fun a hE=>?_)
      refine t_on rfl hE rfl rfl rfl ?_
      refine t_call hE hR cl_value_Text rfl (S_value_Text x23_18) (M.unbind H) (fun x24_19 a w ea hR H=>?_)
      have hE:=Env.put_some hE rfl ea; clear ea
      refine t_on rfl hE rfl rfl rfl ?_
      refine t_val (v:=.bool (sEq x24_19 (⟨#[123,39,97,39,58,32,116,114,117,101,44,32,39,98,39,58,32,49,125]⟩ : ByteArray))) rfl rfl hE rfl (r_bin hE rfl rfl g_str b_eqlS) (fun a hE=>?_)
      refine t_val rfl rfl hE rfl (r_pick_t hE rfl rfl) (fun a hE=>?_)
      refine t_nil ?_
      exact hKr _ _ _ (hE.cut (.cons rfl (.cons rfl (.cons rfl (.cons rfl (.cons rfl (.cons rfl Subs.nil))))))) hR H
    · replace H:=M.ite_f hb H
      have hE:=hE.reb 22 (x12_9.2 == 0) false hb rfl
      refine t_off rfl hE rfl rfl rfl (fun a ea=>?_)
      have hE:=Env.put_some hE rfl ea; clear ea
      refine t_off rfl hE rfl rfl rfl (fun a ea=>?_)
      have hE:=Env.put_some hE rfl ea; clear ea
      refine t_off rfl hE rfl rfl rfl (fun a ea=>?_)
      have hE:=Env.put_some hE rfl ea; clear ea
      refine t_val rfl rfl hE rfl (r_pick_f hE rfl rfl) (fun a hE=>?_)
      refine t_nil ?_
      exact hKr _ _ _ (hE.cut (.cons rfl (.cons rfl (.cons rfl (.cons rfl (.cons rfl (.cons rfl Subs.nil))))))) hR H
  · intro x26_17 a w hE hR H
    refine t_val (v:=.bool x26_17) rfl rfl hE rfl (r_move hE rfl) (fun a hE=>?_)
    refine t_grp (n:=(⟨40,[]⟩ : Frm)) (w0:=w0) 3 (fun x30_20 : Bool=>[(0,.bool false),(1,.pointer (some x1_10)),(3,.pointer (some x3_14)),(4,.int .i64 x16_13.2.1),(30,.bool x30_20)]) (M.unbind H) (fun Kr hKr H=>?_) ?_
    · rcases bool_em x26_17 with hb | hb
      · replace H:=M.ite_t hb H
        have hE:=hE.reb 27 x26_17 true hb rfl
        refine t_on rfl hE rfl rfl rfl ?_
        refine t_val (v:=.int .i64 x16_13.2.2) rfl rfl hE rfl (r_move hE rfl) (fun a hE=>?_)
        refine t_on rfl hE rfl rfl rfl ?_
        refine t_val (v:=.bool (x16_13.2.2 == 0)) rfl rfl hE rfl (r_bin hE rfl rfl g_int b_eql) (fun a hE=>?_)
        refine t_val rfl rfl hE rfl (r_pick_t hE rfl rfl) (fun a hE=>?_)
        refine t_nil ?_
        exact hKr _ _ _ (hE.cut (.cons rfl (.cons rfl (.cons rfl (.cons rfl (.cons rfl Subs.nil)))))) hR H
      · replace H:=M.ite_f hb H
        have hE:=hE.reb 27 x26_17 false hb rfl
        refine t_off rfl hE rfl rfl rfl (fun a ea=>?_)
        have hE:=Env.put_some hE rfl ea; clear ea
        refine t_off rfl hE rfl rfl rfl (fun a ea=>?_)
        have hE:=Env.put_some hE rfl ea; clear ea
        refine t_val rfl rfl hE rfl (r_pick_f hE rfl rfl) (fun a hE=>?_)
        refine t_nil ?_
        exact hKr _ _ _ (hE.cut (.cons rfl (.cons rfl (.cons rfl (.cons rfl (.cons rfl Subs.nil)))))) hR H
    · intro x30_20 a w hE hR H
      refine t_val (v:=.bool x30_20) rfl rfl hE rfl (r_move hE rfl) (fun a hE=>?_)
      refine t_grp (n:=(⟨40,[]⟩ : Frm)) (w0:=w0) 3 (fun x34_21 : Bool=>[(0,.bool false),(1,.pointer (some x1_10)),(3,.pointer (some x3_14)),(34,.bool x34_21)]) (M.unbind H) (fun Kr hKr H=>?_) ?_
      · rcases bool_em x30_20 with hb | hb
        · replace H:=M.ite_t hb H
          have hE:=hE.reb 31 x30_20 true hb rfl
          refine t_on rfl hE rfl rfl rfl ?_
          refine t_val (v:=.int .i64 x16_13.2.1) rfl rfl hE rfl (r_move hE rfl) (fun a hE=>?_)
          refine t_on rfl hE rfl rfl rfl ?_
          refine t_val (v:=.bool (x16_13.2.1 == 0)) rfl rfl hE rfl (r_bin hE rfl rfl g_int b_eql) (fun a hE=>?_)
          refine t_val rfl rfl hE rfl (r_pick_t hE rfl rfl) (fun a hE=>?_)
          refine t_nil ?_
          exact hKr _ _ _ (hE.cut (.cons rfl (.cons rfl (.cons rfl (.cons rfl Subs.nil))))) hR H
        · replace H:=M.ite_f hb H
          have hE:=hE.reb 31 x30_20 false hb rfl
          refine t_off rfl hE rfl rfl rfl (fun a ea=>?_)
          have hE:=Env.put_some hE rfl ea; clear ea
          refine t_off rfl hE rfl rfl rfl (fun a ea=>?_)
          have hE:=Env.put_some hE rfl ea; clear ea
          refine t_val rfl rfl hE rfl (r_pick_f hE rfl rfl) (fun a hE=>?_)
          refine t_nil ?_
          exact hKr _ _ _ (hE.cut (.cons rfl (.cons rfl (.cons rfl (.cons rfl Subs.nil))))) hR H
      · intro x34_21 a w hE hR H
        refine t_val (v:=.bool x34_21) rfl rfl hE rfl (r_move hE rfl) (fun a hE=>?_)
        refine t_grp (n:=(⟨40,[]⟩ : Frm)) (w0:=w0) 4 (fun x39_22 : Bool=>[(0,.bool false),(39,.bool x39_22)]) (M.unbind H) (fun Kr hKr H=>?_) ?_
        · rcases bool_em x34_21 with hb | hb
          · replace H:=M.ite_t hb H
            have hE:=hE.reb 35 x34_21 true hb rfl
            refine t_on rfl hE rfl rfl rfl ?_
            obtain ⟨x36_23,qx36_23,H⟩:=H
            refine t_val (v:=.agg x36_23) rfl rfl hE rfl (r_loadG hE rfl ag24 qx36_23) (fun a hE=>?_)
            refine t_on rfl hE rfl rfl rfl ?_
            obtain ⟨x37_24,qx37_24,H⟩:=H
            refine t_val (v:=.agg x37_24) rfl rfl hE rfl (r_loadG hE rfl ag24 qx37_24) (fun a hE=>?_)
            refine t_on rfl hE rfl rfl rfl ?_
            refine t_call hE hR cl_rambleref02_Same rfl (S_rambleref02_Same x36_23 x37_24) (M.unbind H) (fun x38_25 a w ea hR H=>?_)
            have hE:=Env.put_some hE rfl ea; clear ea
            refine t_val rfl rfl hE rfl (r_pick_t hE rfl rfl) (fun a hE=>?_)
            refine t_nil ?_
            exact hKr _ _ _ (hE.cut (.cons rfl (.cons rfl Subs.nil))) hR H
          · replace H:=M.ite_f hb H
            have hE:=hE.reb 35 x34_21 false hb rfl
            refine t_off rfl hE rfl rfl rfl (fun a ea=>?_)
            have hE:=Env.put_some hE rfl ea; clear ea
            refine t_off rfl hE rfl rfl rfl (fun a ea=>?_)
            have hE:=Env.put_some hE rfl ea; clear ea
            refine t_off rfl hE rfl rfl rfl (fun a ea=>?_)
            have hE:=Env.put_some hE rfl ea; clear ea
            refine t_val rfl rfl hE rfl (r_pick_f hE rfl rfl) (fun a hE=>?_)
            refine t_nil ?_
            exact hKr _ _ _ (hE.cut (.cons rfl (.cons rfl Subs.nil))) hR H
        · intro x39_22 a w hE hR H
          refine t_val (v:=.bool x39_22) rfl rfl hE rfl (r_assign hE rfl) (fun a hE=>?_)
          refine t_nil ?_
          refine hK_16 _ _ ?_
          refine w_ret ?_
          exact hret _ _ _ x39_22 _ hE hR (res_run hE rfl (RV.tmp rfl RV.nil)) rfl H

end Gx
namespace Gx
open Go
set_option linter.unusedVariables false
set_option maxRecDepth 100000
def ramblelaw02_ValueMaps_j1 (c5_15 : Addr) (c7_16 : Sl) : M (Bool):=do
  let x85_18 ← value_Map c7_16
  let x13_19 ← mkB ty_api_Value (#[.int .i64 0,.int .i64 0,.string ByteArray.empty,.slice none 0 0] : Array Value)
  M.need (x85_18.1.size = 4)
  stG x13_19 x85_18.1
  let x94_22 ← M.ite (x85_18.2 == 0) (do
    let x91_23 ← ldG 4 c5_15
    let x92_24 ← ldG 4 x13_19
    let x93_25 ← rambleref02_Same x91_23 x92_24
    M.pure x93_25
    ) (do
    M.pure false
    )
  let x99_26 ← M.ite x94_22 (do
    let x96_27 ← ldG 4 c5_15
    let x97_28 ← value_Check x96_27
    M.pure (x97_28 == 0)
    ) (do
    M.pure false
    )
  M.pure x99_26
theorem tb5_10 : tabAt Go.Proofs.Tryz.f5 10 [[],[],[0,1],[2],[],[4],[],[5,6],[7],[3,0,1,2,3],[8,9,0,1,2,3,4,5,6,7,8,9]] [[],[],[0,1],[2],[],[4],[],[5,6],[7],[3],[8]] [[],[],[0,1],[0,1,2],[],[4],[],[4,5,6],[4,5,6,7],[0,1,2,3],[0,1,2,3,4,5,6,7,8,9]] = true:=by kernel_rfl
noncomputable def ro5_11 : Array Oper:=opsOf Go.Proofs.Tryz.f5 11
def tE5_11 : List (List Nat):=[[],[],[],[],[],[],[4,5],[6],[],[],[8,9],[10],[0,1,0,1,4,5,6,7,11],[12,7,0,1,4,5,6,7,11],[2,3,0,1,2,3,4,5,6,7,8,9,10,11,12,13],[14,11,13,0,1,2,3,4,5,6,7,8,9,10,11,12,13]]
def tC5_11 : List (List Nat):=[[],[],[],[],[],[],[4,5],[6],[],[],[8,9],[10],[0,1],[7,12],[2,3],[11,14]]
def tW5_11 : List (List Nat):=[[],[],[],[],[],[],[4,5],[4,5,6],[],[],[8,9],[8,9,10],[0,1,4,5,6,7,8,9,10,11],[0,1,4,5,6,7,8,9,10,11,12],[0,1,2,3,4,5,6,7,8,9,10,11,12,13],[0,1,2,3,4,5,6,7,8,9,10,11,12,13,14]]
theorem tb5_11 : tabAt Go.Proofs.Tryz.f5 11 tE5_11 tC5_11 tW5_11 = true:=by kernel_rfl
theorem tb5_11m : tabMB 16 tE5_11 tC5_11 tW5_11 [0,0,0,0,0,0,48,64,0,0,768,1024,2291,6387,16383,32767] [0,0,0,0,0,0,48,64,0,0,768,1024,3,4224,12,18432] [0,0,0,0,0,0,48,112,0,0,768,1792,4083,8179,16383,32767] = true:=by kernel_rfl
noncomputable def ro5_12 : Array Oper:=opsOf Go.Proofs.Tryz.f5 12
def tE5_12 : List (List Nat):=[[],[],[1],[],[],[4],[],[],[7],[6,8],[9],[],[],[12],[11,13],[14],[0,2,0,1,2,6,7,8,9,10,15],[16,10,0,1,2,6,7,8,9,10,15],[3,5,0,1,2,3,4,5,6,7,8,9,10,11,12,13,14,15,16,17],[18,15,17,0,1,2,3,4,5,6,7,8,9,10,11,12,13,14,15,16,17]]
def tC5_12 : List (List Nat):=[[],[],[1],[],[],[4],[],[],[7],[6,8],[9],[],[],[12],[11,13],[14],[0,2],[10,16],[3,5],[15,18]]
def tW5_12 : List (List Nat):=[[],[],[1],[],[],[4],[],[],[7],[6,7,8],[6,7,8,9],[],[],[12],[11,12,13],[11,12,13,14],[0,1,2,6,7,8,9,10,11,12,13,14,15],[0,1,2,6,7,8,9,10,11,12,13,14,15,16],[0,1,2,3,4,5,6,7,8,9,10,11,12,13,14,15,16,17],[0,1,2,3,4,5,6,7,8,9,10,11,12,13,14,15,16,17,18]]
theorem tb5_12 : tabAt Go.Proofs.Tryz.f5 12 tE5_12 tC5_12 tW5_12 = true:=by kernel_rfl
theorem tb5_12m : tabMB 20 tE5_12 tC5_12 tW5_12 [0,0,2,0,0,16,0,0,128,320,512,0,0,4096,10240,16384,34759,100295,262143,524287] [0,0,2,0,0,16,0,0,128,320,512,0,0,4096,10240,16384,5,66560,40,294912] [0,0,2,0,0,16,0,0,128,448,960,0,0,4096,14336,30720,65479,131015,262143,524287] = true:=by kernel_rfl
def ramblelaw02_ValueMaps_l1 (c5_31 : Addr) (c7_32 : Sl) (c8_33 : Int) (c32_34 : Sl) (c33_35 : Int) (self1 : (Int) → M (Bool)) : (Int) → M (Bool):=fun s=>match s with
  | x34_30=>do
    M.ite (decide (x34_30 < c33_35)) (do
      let x37_41 ← ixL c32_34 x34_30 1
      let x38_42 ← ldI .u8 x37_41
      M.ite (c8_33 == 0) (do
        ramblelaw02_ValueMaps_j1 c5_31 c7_32
        ) (do
        let x43_46 ← pRem x34_30 c8_33
        let x48_47 ← pRem (IntKind.wrap .i64 x38_42) c8_33
        let x56_49 ← ixL c7_32 (IntKind.wrap .i64 (2 * x48_47)) 4
        let x60_50 ← ixL c7_32 (IntKind.wrap .i64 (2 * x43_46)) 4
        let x57_51 ← ldG 4 x56_49
        let x61_52 ← ldG 4 x60_50
        let x62_53 ← ixL c7_32 (IntKind.wrap .i64 (2 * x43_46)) 4
        M.need (x57_51.size = 4)
        stG x62_53 x57_51
        let x63_55 ← ixL c7_32 (IntKind.wrap .i64 (2 * x48_47)) 4
        M.need (x61_52.size = 4)
        stG x63_55 x61_52
        let x73_57 ← ixL c7_32 (IntKind.wrap .i64 ((IntKind.wrap .i64 (2 * x48_47)) + 1)) 4
        let x78_58 ← ixL c7_32 (IntKind.wrap .i64 ((IntKind.wrap .i64 (2 * x43_46)) + 1)) 4
        let x74_59 ← ldG 4 x73_57
        let x79_60 ← ldG 4 x78_58
        let x80_61 ← ixL c7_32 (IntKind.wrap .i64 ((IntKind.wrap .i64 (2 * x43_46)) + 1)) 4
        M.need (x74_59.size = 4)
        stG x80_61 x74_59
        let x81_63 ← ixL c7_32 (IntKind.wrap .i64 ((IntKind.wrap .i64 (2 * x48_47)) + 1)) 4
        M.need (x79_60.size = 4)
        stG x81_63 x79_60
        self1 (IntKind.wrap .i64 (x34_30 + 1))
        )
      ) (do
      ramblelaw02_ValueMaps_j1 c5_31 c7_32
      )
def ramblelaw02_ValueMaps (x0 : Sl) (x1 : Sl) : M (Bool):=do
  let x17_3 ← value_Map x0
  let x5_4 ← mkB ty_api_Value (#[.int .i64 0,.int .i64 0,.string ByteArray.empty,.slice none 0 0] : Array Value)
  M.need (x17_3.1.size = 4)
  stG x5_4 x17_3.1
  let x20_8 ← ramblelaw02_begun
  let x25_9 ← M.ite (!x20_8) (do
    M.pure true
    ) (do
    M.pure (x17_3.2 != 0)
    )
  M.ite x25_9 (do
    let x26_11 ← ramblelaw02_begun
    M.pure x26_11
    ) (do
    let x28_13 ← slices_Clone_slapi_Value_api_Value x0
    M.loop (ramblelaw02_ValueMaps_l1 x5_4 x28_13 (IntKind.wrap .i64 (Int.tdiv (x28_13.len : Int) 2)) x1 (x1.len : Int)) 0
    )
theorem S_ramblelaw02_ValueMaps (x0 : Sl) (x1 : Sl) : Sound Go.Proofs.Tryz.prog 5 #[(x0 : Sl).v,(x1 : Sl).v] (fun (r : Bool)=>.bool r) (ramblelaw02_ValueMaps x0 x1):=by
  refine sound_of [(0,(x0 : Sl).v),(1,(x1 : Sl).v)] Go.Proofs.Tryz.func5 rfl rfl (Nat.le_of_ble_eq_true rfl) (args_of ⟨rfl,rfl,trivial⟩) (fun w0 w Q R a hret hE hR H=>?_)
  unfold ramblelaw02_ValueMaps at H
  refine w_seq (fun K hK_1=>?_)
  refine t_region ?_
  refine t_val (v:=.bool false) rfl rfl hE rfl (r_assign hE rfl) (fun a hE=>?_)
  refine t_nil ?_
  refine hK_1 _ _ ?_
  refine w_seq (fun K hK_2=>?_)
  refine t_region ?_
  refine t_val (v:=(x0 : Sl).v) rfl rfl hE rfl (r_move hE rfl) (fun a hE=>?_)
  refine t_call hE hR cl_value_Map rfl (S_value_Map x0) (M.unbind H) (fun x17_3 a w ea hR H=>?_)
  have hE:=Env.put_some hE rfl ea; clear ea
  refine t_val (v:=.tuple #[.agg x17_3.1,.int .i64 x17_3.2]) rfl rfl hE rfl (r_move hE rfl) (fun a hE=>?_)
  refine t_val (v:=.agg x17_3.1) rfl rfl hE rfl (r_extract hE rfl rfl) (fun a hE=>?_)
  refine t_val (v:=.int .i64 x17_3.2) rfl rfl hE rfl (r_extract hE rfl rfl) (fun a hE=>?_)
  obtain ⟨x5_4,qx5_4,H⟩:=H
  refine t_valh (v:=.pointer (some x5_4)) rfl rfl hE rfl hR (r_alloc zr24 qx5_4) (fun a w hE hR hh=>?_)
  replace H:=M.at hh H; clear hh
  obtain ⟨qz,H⟩:=H
  obtain ⟨u_5,qu_5,H⟩:=H
  refine t_sth rfl rfl hE hR (r_storeG hE rfl rfl sz24 qz qu_5) (fun a w hE hR hh=>?_)
  replace H:=M.at hh H; clear hh
  refine t_val (v:=.int .i64 x17_3.2) rfl rfl hE rfl (r_assign hE rfl) (fun a hE=>?_)
  refine t_nil ?_
  refine hK_2 _ _ ?_
  refine w_seq (fun K hK_6=>?_)
  refine w_seq (fun K hK_7=>?_)
  refine t_region ?_
  refine t_call hE hR cl_ramblelaw02_begun rfl (S_ramblelaw02_begun ) (M.unbind H) (fun x20_8 a w ea hR H=>?_)
  have hE:=Env.put_some hE rfl ea; clear ea
  refine t_val (v:=.bool (!x20_8)) rfl rfl hE rfl (r_un hE rfl u_not) (fun a hE=>?_)
  refine t_val (v:=.bool (!x20_8)) rfl rfl hE rfl (r_move hE rfl) (fun a hE=>?_)
  refine t_grp (n:=(⟨100,[]⟩ : Frm)) (w0:=w0) 3 (fun x25_9 : Bool=>[(0,(x0 : Sl).v),(1,(x1 : Sl).v),(5,.pointer (some x5_4)),(25,.bool x25_9)]) (M.unbind H) (fun Kr hKr H=>?_) ?_
  · rcases bool_em (!x20_8) with hb | hb
    · replace H:=M.ite_t hb H
      have hE:=hE.reb 22 (!x20_8) true hb rfl
      refine t_off rfl hE rfl rfl rfl (fun a ea=>?_)
      have hE:=Env.put_some hE rfl ea; clear ea
      refine t_off rfl hE rfl rfl rfl (fun a ea=>?_)
      have hE:=Env.put_some hE rfl ea; clear ea
      refine t_val rfl rfl hE rfl (r_pick_t hE rfl rfl) (fun a hE=>?_)
      refine t_nil ?_
      exact hKr _ _ _ (hE.cut (.cons rfl (.cons rfl (.cons rfl (.cons rfl Subs.nil))))) hR H
    · replace H:=M.ite_f hb H
      have hE:=hE.reb 22 (!x20_8) false hb rfl
      refine t_on rfl hE rfl rfl rfl ?_
      refine t_val (v:=.int .i64 x17_3.2) rfl rfl hE rfl (r_move hE rfl) (fun a hE=>?_)
      refine t_on rfl hE rfl rfl rfl ?_
      refine t_val (v:=.bool (x17_3.2 != 0)) rfl rfl hE rfl (r_bin hE rfl rfl g_int b_neq) (fun a hE=>?_)
      refine t_val rfl rfl hE rfl (r_pick_f hE rfl rfl) (fun a hE=>?_)
      refine t_nil ?_
      exact hKr _ _ _ (hE.cut (.cons rfl (.cons rfl (.cons rfl (.cons rfl Subs.nil))))) hR H
  · intro x25_9 a w hE hR H
    refine t_nil ?_
    refine hK_7 _ _ ?_
    refine w_cond x25_9 hE rfl (fun hb=>?_) (fun hb=>?_)
    · replace H:=M.ite_t hb H
      refine w_seq (fun K hK_10=>?_)
      refine t_region ?_
      refine t_call hE hR cl_ramblelaw02_begun rfl (S_ramblelaw02_begun ) (M.unbind H) (fun x26_11 a w ea hR H=>?_)
      have hE:=Env.put_some hE rfl ea; clear ea
      refine t_val (v:=.bool x26_11) rfl rfl hE rfl (r_assign hE rfl) (fun a hE=>?_)
      refine t_nil ?_
      refine hK_10 _ _ ?_
      refine w_ret ?_
      exact hret _ _ _ x26_11 _ hE hR (res_run hE rfl (RV.tmp rfl RV.nil)) rfl H
    · replace H:=M.ite_f hb H
      refine w_skip ?_
      refine hK_6 _ _ ?_
      refine w_seq (fun K hK_12=>?_)
      refine t_region ?_
      refine t_val (v:=(x0 : Sl).v) rfl rfl hE rfl (r_move hE rfl) (fun a hE=>?_)
      refine t_call hE hR cl_slices_Clone_slapi_Value_api_Value rfl (S_slices_Clone_slapi_Value_api_Value x0) (M.unbind H) (fun x28_13 a w ea hR H=>?_)
      have hE:=Env.put_some hE rfl ea; clear ea
      refine t_val (v:=(x28_13 : Sl).v) rfl rfl hE rfl (r_assign hE rfl) (fun a hE=>?_)
      refine t_nil ?_
      refine hK_12 _ _ ?_
      refine w_seq (fun K hK_14=>?_)
      refine t_region ?_
      refine t_val (v:=(x28_13 : Sl).v) rfl rfl hE rfl (r_move hE rfl) (fun a hE=>?_)
      refine t_val (v:=.int .i64 (x28_13.len : Int)) rfl rfl hE rfl (r_len hE rfl 24 un22) (fun a hE=>?_)
      refine t_val (v:=.int .i64 (IntKind.wrap .i64 (Int.tdiv (x28_13.len : Int) 2))) rfl rfl hE rfl (r_bin hE rfl rfl g_int (b_quo ⟨by decide,rfl⟩)) (fun a hE=>?_)
      refine t_val (v:=.int .i64 (IntKind.wrap .i64 (Int.tdiv (x28_13.len : Int) 2))) rfl rfl hE rfl (r_assign hE rfl) (fun a hE=>?_)
      refine t_nil ?_
      refine hK_14 _ _ ?_
      refine w_seq_join (fun a w=>Env (⟨100,[]⟩ : Frm) a [(5,.pointer (some x5_4)),(7,(x28_13 : Sl).v)] ∧ Rest w0 w ∧ (ramblelaw02_ValueMaps_j1 x5_4 x28_13).wp w.heap Q) ?_ ?_
      · rintro a w ⟨hE,hR,H⟩
        unfold ramblelaw02_ValueMaps_j1 at H
        refine w_seq (fun K hK_17=>?_)
        refine t_region ?_
        refine t_val (v:=(x28_13 : Sl).v) rfl rfl hE rfl (r_move hE rfl) (fun a hE=>?_)
        refine t_call hE hR cl_value_Map rfl (S_value_Map x28_13) (M.unbind H) (fun x85_18 a w ea hR H=>?_)
        have hE:=Env.put_some hE rfl ea; clear ea
        refine t_val (v:=.tuple #[.agg x85_18.1,.int .i64 x85_18.2]) rfl rfl hE rfl (r_move hE rfl) (fun a hE=>?_)
        refine t_val (v:=.agg x85_18.1) rfl rfl hE rfl (r_extract hE rfl rfl) (fun a hE=>?_)
        refine t_val (v:=.int .i64 x85_18.2) rfl rfl hE rfl (r_extract hE rfl rfl) (fun a hE=>?_)
        obtain ⟨x13_19,qx13_19,H⟩:=H
        refine t_valh (v:=.pointer (some x13_19)) rfl rfl hE rfl hR (r_alloc zr24 qx13_19) (fun a w hE hR hh=>?_)
        replace H:=M.at hh H; clear hh
        obtain ⟨qz,H⟩:=H
        obtain ⟨u_20,qu_20,H⟩:=H
        refine t_sth rfl rfl hE hR (r_storeG hE rfl rfl sz24 qz qu_20) (fun a w hE hR hh=>?_)
        replace H:=M.at hh H; clear hh
        refine t_val (v:=.int .i64 x85_18.2) rfl rfl hE rfl (r_assign hE rfl) (fun a hE=>?_)
        refine t_nil ?_
        refine hK_17 _ _ ?_
        refine w_seq (fun K hK_21=>?_)
        refine t_region ?_
        refine t_val (v:=.int .i64 x85_18.2) rfl rfl hE rfl (r_move hE rfl) (fun a hE=>?_)
        refine t_val (v:=.bool (x85_18.2 == 0)) rfl rfl hE rfl (r_bin hE rfl rfl g_int b_eql) (fun a hE=>?_)
        refine t_val (v:=.bool (x85_18.2 == 0)) rfl rfl hE rfl (r_move hE rfl) (fun a hE=>?_)
        refine t_grp (n:=(⟨100,[]⟩ : Frm)) (w0:=w0) 4 (fun x94_22 : Bool=>[(5,.pointer (some x5_4)),(94,.bool x94_22)]) (M.unbind H) (fun Kr hKr H=>?_) ?_
        · rcases bool_em (x85_18.2 == 0) with hb | hb
          · replace H:=M.ite_t hb H
            have hE:=hE.reb 90 (x85_18.2 == 0) true hb rfl
            refine t_on rfl hE rfl rfl rfl ?_
            obtain ⟨x91_23,qx91_23,H⟩:=H
            refine t_val (v:=.agg x91_23) rfl rfl hE rfl (r_loadG hE rfl ag24 qx91_23) (fun a hE=>?_)
            refine t_on rfl hE rfl rfl rfl ?_
            obtain ⟨x92_24,qx92_24,H⟩:=H
            refine t_val (v:=.agg x92_24) rfl rfl hE rfl (r_loadG hE rfl ag24 qx92_24) (fun a hE=>?_)
            refine t_on rfl hE rfl rfl rfl ?_
            refine t_call hE hR cl_rambleref02_Same rfl (S_rambleref02_Same x91_23 x92_24) (M.unbind H) (fun x93_25 a w ea hR H=>?_)
            have hE:=Env.put_some hE rfl ea; clear ea
            refine t_val rfl rfl hE rfl (r_pick_t hE rfl rfl) (fun a hE=>?_)
            refine t_nil ?_
            exact hKr _ _ _ (hE.cut (.cons rfl (.cons rfl Subs.nil))) hR H
          · replace H:=M.ite_f hb H
            have hE:=hE.reb 90 (x85_18.2 == 0) false hb rfl
            refine t_off rfl hE rfl rfl rfl (fun a ea=>?_)
            have hE:=Env.put_some hE rfl ea; clear ea
            refine t_off rfl hE rfl rfl rfl (fun a ea=>?_)
            have hE:=Env.put_some hE rfl ea; clear ea
            refine t_off rfl hE rfl rfl rfl (fun a ea=>?_)
            have hE:=Env.put_some hE rfl ea; clear ea
            refine t_val rfl rfl hE rfl (r_pick_f hE rfl rfl) (fun a hE=>?_)
            refine t_nil ?_
            exact hKr _ _ _ (hE.cut (.cons rfl (.cons rfl Subs.nil))) hR H
        · intro x94_22 a w hE hR H
          refine t_val (v:=.bool x94_22) rfl rfl hE rfl (r_move hE rfl) (fun a hE=>?_)
          refine t_grp (n:=(⟨100,[]⟩ : Frm)) (w0:=w0) 4 (fun x99_26 : Bool=>[(99,.bool x99_26)]) (M.unbind H) (fun Kr hKr H=>?_) ?_
          · rcases bool_em x94_22 with hb | hb
            · replace H:=M.ite_t hb H
              have hE:=hE.reb 95 x94_22 true hb rfl
              refine t_on rfl hE rfl rfl rfl ?_
              obtain ⟨x96_27,qx96_27,H⟩:=H
              refine t_val (v:=.agg x96_27) rfl rfl hE rfl (r_loadG hE rfl ag24 qx96_27) (fun a hE=>?_)
              refine t_on rfl hE rfl rfl rfl ?_
              refine t_call hE hR cl_value_Check rfl (S_value_Check x96_27) (M.unbind H) (fun x97_28 a w ea hR H=>?_)
              have hE:=Env.put_some hE rfl ea; clear ea
              refine t_on rfl hE rfl rfl rfl ?_
              refine t_val (v:=.bool (x97_28 == 0)) rfl rfl hE rfl (r_bin hE rfl rfl g_int b_eql) (fun a hE=>?_)
              refine t_val rfl rfl hE rfl (r_pick_t hE rfl rfl) (fun a hE=>?_)
              refine t_nil ?_
              exact hKr _ _ _ (hE.cut (.cons rfl Subs.nil)) hR H
            · replace H:=M.ite_f hb H
              have hE:=hE.reb 95 x94_22 false hb rfl
              refine t_off rfl hE rfl rfl rfl (fun a ea=>?_)
              have hE:=Env.put_some hE rfl ea; clear ea
              refine t_off rfl hE rfl rfl rfl (fun a ea=>?_)
              have hE:=Env.put_some hE rfl ea; clear ea
              refine t_off rfl hE rfl rfl rfl (fun a ea=>?_)
              have hE:=Env.put_some hE rfl ea; clear ea
              refine t_val rfl rfl hE rfl (r_pick_f hE rfl rfl) (fun a hE=>?_)
              refine t_nil ?_
              exact hKr _ _ _ (hE.cut (.cons rfl Subs.nil)) hR H
          · intro x99_26 a w hE hR H
            refine t_val (v:=.bool x99_26) rfl rfl hE rfl (r_assign hE rfl) (fun a hE=>?_)
            refine t_nil ?_
            refine hK_21 _ _ ?_
            refine w_ret ?_
            exact hret _ _ _ x99_26 _ hE hR (res_run hE rfl (RV.tmp rfl RV.nil)) rfl H
      · skip
        refine w_seq (fun K hK_29=>?_)
        refine t_region ?_
        refine t_val (v:=(x1 : Sl).v) rfl rfl hE rfl (r_move hE rfl) (fun a hE=>?_)
        refine t_val (v:=.int .i64 (x1.len : Int)) rfl rfl hE rfl (r_len hE rfl 5 un35) (fun a hE=>?_)
        refine t_val (v:=.int .i64 0) rfl rfl hE rfl (r_move hE rfl) (fun a hE=>?_)
        refine t_nil ?_
        refine hK_29 _ _ ?_
        refine w_block ?_
        refine l_loop (fun (s : Int)=>(⟨100,[]⟩ : Frm)) (fun (s : Int)=>[(5,.pointer (some x5_4)),(7,(x28_13 : Sl).v),(8,.int .i64 (IntKind.wrap .i64 (Int.tdiv (x28_13.len : Int) 2))),(32,(x1 : Sl).v),(33,.int .i64 (x1.len : Int)),(34,.int .i64 s)]) H (hE.cut (.cons rfl (.cons rfl (.cons rfl (.cons rfl (.cons rfl (.cons rfl Subs.nil))))))) hR (fun Y self1 hY_36 x34_30 a w hE hR H=>?_)
        replace hE : Env (⟨100,[]⟩ : Frm) a [(5,.pointer (some x5_4)),(7,(x28_13 : Sl).v),(8,.int .i64 (IntKind.wrap .i64 (Int.tdiv (x28_13.len : Int) 2))),(32,(x1 : Sl).v),(33,.int .i64 (x1.len : Int)),(34,.int .i64 x34_30)]:=hE
        replace H : (ramblelaw02_ValueMaps_l1 x5_4 x28_13 (IntKind.wrap .i64 (Int.tdiv (x28_13.len : Int) 2)) x1 (x1.len : Int) self1 x34_30).wp w.heap Q:=H
        unfold ramblelaw02_ValueMaps_l1 at H
        refine w_seq (fun K hK_37=>?_)
        refine t_region ?_
        refine t_val (v:=.bool (decide (x34_30 < (x1.len : Int)))) rfl rfl hE rfl (r_bin hE rfl rfl g_int b_lss) (fun a hE=>?_)
        refine t_nil ?_
        refine hK_37 _ _ ?_
        refine w_seq (fun K hK_38=>?_)
        refine w_cond (decide (x34_30 < (x1.len : Int))) hE rfl (fun hb=>?_) (fun hb=>?_)
        · replace H:=M.ite_t hb H
          refine w_skip ?_
          refine hK_38 _ _ ?_
          refine w_seq (fun K hK_39=>?_)
          refine w_block ?_
          refine w_seq (fun K hK_40=>?_)
          refine t_region ?_
          refine t_val (v:=.int .i64 x34_30) rfl rfl hE rfl (r_move hE rfl) (fun a hE=>?_)
          obtain ⟨x37_41,qx37_41,H⟩:=H
          refine t_val (v:=.pointer (some x37_41)) rfl rfl hE rfl (r_indexAddrL hE rfl rfl un35 sz5 qx37_41) (fun a hE=>?_)
          obtain ⟨x38_42,qx38_42,H⟩:=H
          refine t_val (v:=.int .u8 x38_42) rfl rfl hE rfl (r_load hE rfl sc5 qx38_42) (fun a hE=>?_)
          refine t_val (v:=.int .i64 x34_30) rfl rfl hE rfl (r_assign hE rfl) (fun a hE=>?_)
          refine t_val (v:=.int .u8 x38_42) rfl rfl hE rfl (r_assign hE rfl) (fun a hE=>?_)
          refine t_nil ?_
          refine hK_40 _ _ ?_
          refine w_seq (fun K hK_43=>?_)
          refine w_seq (fun K hK_44=>?_)
          refine t_region ?_
          refine t_val (v:=.int .i64 (IntKind.wrap .i64 (Int.tdiv (x28_13.len : Int) 2))) rfl rfl hE rfl (r_move hE rfl) (fun a hE=>?_)
          refine t_val (v:=.bool ((IntKind.wrap .i64 (Int.tdiv (x28_13.len : Int) 2)) == 0)) rfl rfl hE rfl (r_bin hE rfl rfl g_int b_eql) (fun a hE=>?_)
          refine t_nil ?_
          refine hK_44 _ _ ?_
          refine w_cond ((IntKind.wrap .i64 (Int.tdiv (x28_13.len : Int) 2)) == 0) hE rfl (fun hb=>?_) (fun hb=>?_)
          · replace H:=M.ite_t hb H
            refine w_exit ?_
            refine Xu.ne rfl ?_
            refine Xu.same ?_
            exact ⟨hE.cut (.cons rfl (.cons rfl Subs.nil)),hR,H⟩
          · replace H:=M.ite_f hb H
            refine w_skip ?_
            refine hK_43 _ _ ?_
            refine w_seq (fun K hK_45=>?_)
            obtain ⟨x43_46,qx43_46,H⟩:=H
            obtain ⟨x48_47,qx48_47,H⟩:=H
            have hT:=tab_of tb5_10 rfl rfl
            refine d_start (fun w : World=>(fun h : Heap=>True) w.heap) [0,1,2,3,4,5,6,7,8,9,10] #[false,false,false,false,false,false,false,false,false,false,false] mo hR rfl rfl (fun w' e=>by rw [e]; exact trivial) (fun w hh hR hs=>?_)
            replace H:=M.at hh H; clear hh
            refine d_pureg (i:=0) (v:=.int .i64 x34_30) #[true,false,false,false,false,false,false,false,false,false,false] rfl rfl hT (by kernel_rfl) hE rfl (wanted_none rfl) (fun w=>r_move hE rfl) (fun a hE=>?_)
            refine d_pureg (i:=1) (v:=.int .i64 (IntKind.wrap .i64 (Int.tdiv (x28_13.len : Int) 2))) #[true,true,false,false,false,false,false,false,false,false,false] rfl rfl hT (by kernel_rfl) hE rfl (wanted_none rfl) (fun w=>r_move hE rfl) (fun a hE=>?_)
            refine d_pureg (i:=2) (v:=.int .i64 x43_46) #[true,true,true,false,false,false,false,false,false,false,false] rfl rfl hT (by kernel_rfl) hE rfl (wanted_none rfl) (fun w=>r_bin hE rfl rfl g_int (b_rem qx43_46)) (fun a hE=>?_)
            refine d_pureg (i:=3) (v:=.int .i64 (IntKind.wrap .i64 (2 * x43_46))) #[true,true,true,true,false,false,false,false,false,false,false] rfl rfl hT (by kernel_rfl) hE rfl (wanted_none rfl) (fun w=>r_bin hE rfl rfl g_int b_mul) (fun a hE=>?_)
            refine d_pureg (i:=4) (v:=.int .u8 x38_42) #[true,true,true,true,true,false,false,false,false,false,false] rfl rfl hT (by kernel_rfl) hE rfl (wanted_none rfl) (fun w=>r_move hE rfl) (fun a hE=>?_)
            refine d_pureg (i:=5) (v:=.int .i64 (IntKind.wrap .i64 x38_42)) #[true,true,true,true,true,true,false,false,false,false,false] rfl rfl hT (by kernel_rfl) hE rfl (wanted_none rfl) (fun w=>r_convI hE rfl un5 un3) (fun a hE=>?_)
            refine d_pureg (i:=6) (v:=.int .i64 (IntKind.wrap .i64 (Int.tdiv (x28_13.len : Int) 2))) #[true,true,true,true,true,true,true,false,false,false,false] rfl rfl hT (by kernel_rfl) hE rfl (wanted_none rfl) (fun w=>r_move hE rfl) (fun a hE=>?_)
            refine d_pureg (i:=7) (v:=.int .i64 x48_47) #[true,true,true,true,true,true,true,true,false,false,false] rfl rfl hT (by kernel_rfl) hE rfl (wanted_none rfl) (fun w=>r_bin hE rfl rfl g_int (b_rem qx48_47)) (fun a hE=>?_)
            refine d_pureg (i:=8) (v:=.int .i64 (IntKind.wrap .i64 (2 * x48_47))) #[true,true,true,true,true,true,true,true,true,false,false] rfl rfl hT (by kernel_rfl) hE rfl (wanted_none rfl) (fun w=>r_bin hE rfl rfl g_int b_mul) (fun a hE=>?_)
            refine d_pureg (i:=9) (v:=.int .i64 (IntKind.wrap .i64 (2 * x43_46))) #[true,true,true,true,true,true,true,true,true,true,false] rfl rfl hT (by kernel_rfl) hE rfl (wanted_none rfl) (fun w=>r_assign hE rfl) (fun a hE=>?_)
            refine d_pureg (i:=10) (v:=.int .i64 (IntKind.wrap .i64 (2 * x48_47))) #[true,true,true,true,true,true,true,true,true,true,true] rfl rfl hT (by kernel_rfl) hE rfl (wanted_none rfl) (fun w=>r_assign hE rfl) (fun a hE=>?_)
            refine d_done hT (by kernel_rfl) ?_
            refine hK_45 _ _ ?_
            refine w_seq (fun K hK_48=>?_)
            obtain ⟨x56_49,qx56_49,H⟩:=H
            obtain ⟨x60_50,qx60_50,H⟩:=H
            obtain ⟨x57_51,qx57_51,H⟩:=H
            obtain ⟨x61_52,qx61_52,H⟩:=H
            obtain ⟨x62_53,qx62_53,H⟩:=H
            refine reg_eq (rops:=ro5_11) (by kernel_rfl) ?_
            have hT : Tab ro5_11 _ _ _:=tab_of tb5_11 rfl (by kernel_rfl)
            have hM:=TabM.of tb5_11m
            refine d_start (m:=16) (fun w : World=>(fun h : Heap=>(x57_51.size = 4 ∧ ∀ i,i < 4 → hcell h (Addr.add x56_49 i) = x57_51[i]?) ∧ (x61_52.size = 4 ∧ ∀ i,i < 4 → hcell h (Addr.add x60_50 i) = x61_52[i]?)) w.heap) [12,13,14,15] (unb 16 0) mo hR (by kernel_rfl) (by kernel_rfl) (fun w' e=>by rw [e]; exact ⟨qx57_51,qx61_52⟩) (fun w hh hR hs=>?_)
            replace H:=M.at hh H; clear hh
            refine d_pureg (i:=0) (v:=(x28_13 : Sl).v) (unb 16 1) rfl rfl hT (anyM hM (by kernel_rfl)) hE rfl (wanted_none rfl) (fun w=>r_move hE rfl) (fun a hE=>?_)
            refine d_pureg (i:=1) (v:=.int .i64 (IntKind.wrap .i64 (2 * x43_46))) (unb 16 3) rfl rfl hT (anyM hM (by kernel_rfl)) hE rfl (wanted_none rfl) (fun w=>r_move hE rfl) (fun a hE=>?_)
            refine d_pureg (i:=2) (v:=(x28_13 : Sl).v) (unb 16 7) rfl rfl hT (anyM hM (by kernel_rfl)) hE rfl (wanted_none rfl) (fun w=>r_move hE rfl) (fun a hE=>?_)
            refine d_pureg (i:=3) (v:=.int .i64 (IntKind.wrap .i64 (2 * x48_47))) (unb 16 15) rfl rfl hT (anyM hM (by kernel_rfl)) hE rfl (wanted_none rfl) (fun w=>r_move hE rfl) (fun a hE=>?_)
            refine d_pureg (i:=4) (v:=(x28_13 : Sl).v) (unb 16 31) rfl rfl hT (anyM hM (by kernel_rfl)) hE rfl (wanted_none rfl) (fun w=>r_move hE rfl) (fun a hE=>?_)
            refine d_pureg (i:=5) (v:=.int .i64 (IntKind.wrap .i64 (2 * x48_47))) (unb 16 63) rfl rfl hT (anyM hM (by kernel_rfl)) hE rfl (wanted_none rfl) (fun w=>r_move hE rfl) (fun a hE=>?_)
            refine d_pureg (i:=6) (v:=.pointer (some x56_49)) (unb 16 127) rfl rfl hT (anyM hM (by kernel_rfl)) hE rfl (wanted_none rfl) (fun w=>r_indexAddrL hE rfl rfl un22 sz24 qx56_49) (fun a hE=>?_)
            refine d_pureg (i:=8) (v:=(x28_13 : Sl).v) (unb 16 383) rfl rfl hT (anyM hM (by kernel_rfl)) hE rfl (wanted_none rfl) (fun w=>r_move hE rfl) (fun a hE=>?_)
            refine d_pureg (i:=9) (v:=.int .i64 (IntKind.wrap .i64 (2 * x43_46))) (unb 16 895) rfl rfl hT (anyM hM (by kernel_rfl)) hE rfl (wanted_none rfl) (fun w=>r_move hE rfl) (fun a hE=>?_)
            refine d_pureg (i:=10) (v:=.pointer (some x60_50)) (unb 16 1919) rfl rfl hT (anyM hM (by kernel_rfl)) hE rfl (wanted_none rfl) (fun w=>r_indexAddrL hE rfl rfl un22 sz24 qx60_50) (fun a hE=>?_)
            refine d_read (i:=7) (v:=.agg x57_51) (unb 16 2047) rfl rfl hT (takeM hM (by kernel_rfl)) hE rfl (wanted_none rfl) hs (fun w s=>r_loadG hE rfl ag24 s.1) (fun a hE=>?_)
            refine d_read (i:=11) (v:=.agg x61_52) (unb 16 4095) rfl rfl hT (takeM hM (by kernel_rfl)) hE rfl (wanted_none rfl) hs (fun w s=>r_loadG hE rfl ag24 s.2) (fun a hE=>?_)
            refine d_pureg (i:=12) (v:=.pointer (some x62_53)) (unb 16 8191) rfl rfl hT (anyM hM (by kernel_rfl)) hE rfl (wanted_none rfl) (fun w=>r_indexAddrL hE rfl rfl un22 sz24 qx62_53) (fun a hE=>?_)
            obtain ⟨qz,H⟩:=H
            obtain ⟨u_54,qu_54,H⟩:=H
            refine d_stlh (i:=13) (unb 16 16383) rfl rfl hT (oneM hM (by kernel_rfl)) rfl hE hR (wanted_none rfl) (r_storeG hE rfl rfl sz24 qz qu_54)  (fun a w hE hR hh=>?_)
            replace H:=M.at hh H; clear hh
            obtain ⟨x63_55,qx63_55,H⟩:=H
            refine d_pureg (i:=14) (v:=.pointer (some x63_55)) (unb 16 32767) rfl rfl hT (anyM hM (by kernel_rfl)) hE rfl (wanted_none rfl) (fun w=>r_indexAddrL hE rfl rfl un22 sz24 qx63_55) (fun a hE=>?_)
            obtain ⟨qz,H⟩:=H
            obtain ⟨u_56,qu_56,H⟩:=H
            refine d_stlh (i:=15) (unb 16 65535) rfl rfl hT (oneM hM (by kernel_rfl)) rfl hE hR (wanted_none rfl) (r_storeG hE rfl rfl sz24 qz qu_56)  (fun a w hE hR hh=>?_)
            replace H:=M.at hh H; clear hh
            refine d_done hT (doneM hM (by kernel_rfl)) ?_
            refine hK_48 _ _ ?_
            obtain ⟨x73_57,qx73_57,H⟩:=H
            obtain ⟨x78_58,qx78_58,H⟩:=H
            obtain ⟨x74_59,qx74_59,H⟩:=H
            obtain ⟨x79_60,qx79_60,H⟩:=H
            obtain ⟨x80_61,qx80_61,H⟩:=H
            refine reg_eq (rops:=ro5_12) (by kernel_rfl) ?_
            have hT : Tab ro5_12 _ _ _:=tab_of tb5_12 rfl (by kernel_rfl)
            have hM:=TabM.of tb5_12m
            refine d_start (m:=20) (fun w : World=>(fun h : Heap=>(x74_59.size = 4 ∧ ∀ i,i < 4 → hcell h (Addr.add x73_57 i) = x74_59[i]?) ∧ (x79_60.size = 4 ∧ ∀ i,i < 4 → hcell h (Addr.add x78_58 i) = x79_60[i]?)) w.heap) [16,17,18,19] (unb 20 0) mo hR (by kernel_rfl) (by kernel_rfl) (fun w' e=>by rw [e]; exact ⟨qx74_59,qx79_60⟩) (fun w hh hR hs=>?_)
            replace H:=M.at hh H; clear hh
            refine d_pureg (i:=0) (v:=(x28_13 : Sl).v) (unb 20 1) rfl rfl hT (anyM hM (by kernel_rfl)) hE rfl (wanted_none rfl) (fun w=>r_move hE rfl) (fun a hE=>?_)
            refine d_pureg (i:=1) (v:=.int .i64 (IntKind.wrap .i64 (2 * x43_46))) (unb 20 3) rfl rfl hT (anyM hM (by kernel_rfl)) hE rfl (wanted_none rfl) (fun w=>r_move hE rfl) (fun a hE=>?_)
            refine d_pureg (i:=2) (v:=.int .i64 (IntKind.wrap .i64 ((IntKind.wrap .i64 (2 * x43_46)) + 1))) (unb 20 7) rfl rfl hT (anyM hM (by kernel_rfl)) hE rfl (wanted_none rfl) (fun w=>r_bin hE rfl rfl g_int b_add) (fun a hE=>?_)
            refine d_pureg (i:=3) (v:=(x28_13 : Sl).v) (unb 20 15) rfl rfl hT (anyM hM (by kernel_rfl)) hE rfl (wanted_none rfl) (fun w=>r_move hE rfl) (fun a hE=>?_)
            refine d_pureg (i:=4) (v:=.int .i64 (IntKind.wrap .i64 (2 * x48_47))) (unb 20 31) rfl rfl hT (anyM hM (by kernel_rfl)) hE rfl (wanted_none rfl) (fun w=>r_move hE rfl) (fun a hE=>?_)
            refine d_pureg (i:=5) (v:=.int .i64 (IntKind.wrap .i64 ((IntKind.wrap .i64 (2 * x48_47)) + 1))) (unb 20 63) rfl rfl hT (anyM hM (by kernel_rfl)) hE rfl (wanted_none rfl) (fun w=>r_bin hE rfl rfl g_int b_add) (fun a hE=>?_)
            refine d_pureg (i:=6) (v:=(x28_13 : Sl).v) (unb 20 127) rfl rfl hT (anyM hM (by kernel_rfl)) hE rfl (wanted_none rfl) (fun w=>r_move hE rfl) (fun a hE=>?_)
            refine d_pureg (i:=7) (v:=.int .i64 (IntKind.wrap .i64 (2 * x48_47))) (unb 20 255) rfl rfl hT (anyM hM (by kernel_rfl)) hE rfl (wanted_none rfl) (fun w=>r_move hE rfl) (fun a hE=>?_)
            refine d_pureg (i:=8) (v:=.int .i64 (IntKind.wrap .i64 ((IntKind.wrap .i64 (2 * x48_47)) + 1))) (unb 20 511) rfl rfl hT (anyM hM (by kernel_rfl)) hE rfl (wanted_none rfl) (fun w=>r_bin hE rfl rfl g_int b_add) (fun a hE=>?_)
            refine d_pureg (i:=9) (v:=.pointer (some x73_57)) (unb 20 1023) rfl rfl hT (anyM hM (by kernel_rfl)) hE rfl (wanted_none rfl) (fun w=>r_indexAddrL hE rfl rfl un22 sz24 qx73_57) (fun a hE=>?_)
            refine d_pureg (i:=11) (v:=(x28_13 : Sl).v) (unb 20 3071) rfl rfl hT (anyM hM (by kernel_rfl)) hE rfl (wanted_none rfl) (fun w=>r_move hE rfl) (fun a hE=>?_)
            refine d_pureg (i:=12) (v:=.int .i64 (IntKind.wrap .i64 (2 * x43_46))) (unb 20 7167) rfl rfl hT (anyM hM (by kernel_rfl)) hE rfl (wanted_none rfl) (fun w=>r_move hE rfl) (fun a hE=>?_)
            refine d_pureg (i:=13) (v:=.int .i64 (IntKind.wrap .i64 ((IntKind.wrap .i64 (2 * x43_46)) + 1))) (unb 20 15359) rfl rfl hT (anyM hM (by kernel_rfl)) hE rfl (wanted_none rfl) (fun w=>r_bin hE rfl rfl g_int b_add) (fun a hE=>?_)
            refine d_pureg (i:=14) (v:=.pointer (some x78_58)) (unb 20 31743) rfl rfl hT (anyM hM (by kernel_rfl)) hE rfl (wanted_none rfl) (fun w=>r_indexAddrL hE rfl rfl un22 sz24 qx78_58) (fun a hE=>?_)
            refine d_read (i:=10) (v:=.agg x74_59) (unb 20 32767) rfl rfl hT (takeM hM (by kernel_rfl)) hE rfl (wanted_none rfl) hs (fun w s=>r_loadG hE rfl ag24 s.1) (fun a hE=>?_)
            refine d_read (i:=15) (v:=.agg x79_60) (unb 20 65535) rfl rfl hT (takeM hM (by kernel_rfl)) hE rfl (wanted_none rfl) hs (fun w s=>r_loadG hE rfl ag24 s.2) (fun a hE=>?_)
            refine d_pureg (i:=16) (v:=.pointer (some x80_61)) (unb 20 131071) rfl rfl hT (anyM hM (by kernel_rfl)) hE rfl (wanted_none rfl) (fun w=>r_indexAddrL hE rfl rfl un22 sz24 qx80_61) (fun a hE=>?_)
            obtain ⟨qz,H⟩:=H
            obtain ⟨u_62,qu_62,H⟩:=H
            refine d_stlh (i:=17) (unb 20 262143) rfl rfl hT (oneM hM (by kernel_rfl)) rfl hE hR (wanted_none rfl) (r_storeG hE rfl rfl sz24 qz qu_62)  (fun a w hE hR hh=>?_)
            replace H:=M.at hh H; clear hh
            obtain ⟨x81_63,qx81_63,H⟩:=H
            refine d_pureg (i:=18) (v:=.pointer (some x81_63)) (unb 20 524287) rfl rfl hT (anyM hM (by kernel_rfl)) hE rfl (wanted_none rfl) (fun w=>r_indexAddrL hE rfl rfl un22 sz24 qx81_63) (fun a hE=>?_)
            obtain ⟨qz,H⟩:=H
            obtain ⟨u_64,qu_64,H⟩:=H
            refine d_stlh (i:=19) (unb 20 1048575) rfl rfl hT (oneM hM (by kernel_rfl)) rfl hE hR (wanted_none rfl) (r_storeG hE rfl rfl sz24 qz qu_64)  (fun a w hE hR hh=>?_)
            replace H:=M.at hh H; clear hh
            refine d_done hT (doneM hM (by kernel_rfl)) ?_
            refine hK_39 _ _ ?_
            refine t_region ?_
            refine t_val (v:=.int .i64 (IntKind.wrap .i64 (x34_30 + 1))) rfl rfl hE rfl (r_bin hE rfl rfl g_int b_add) (fun a hE=>?_)
            refine t_val (v:=.int .i64 (IntKind.wrap .i64 (x34_30 + 1))) rfl rfl hE rfl (r_move hE rfl) (fun a hE=>?_)
            refine t_nil ?_
            exact hY_36 (IntKind.wrap .i64 (x34_30 + 1)) _ _ (hE.cut (.cons rfl (.cons rfl (.cons rfl (.cons rfl (.cons rfl (.cons rfl Subs.nil))))))) hR H
        · replace H:=M.ite_f hb H
          refine w_exit ?_
          refine Xu.same ?_
          exact ⟨hE.cut (.cons rfl (.cons rfl Subs.nil)),hR,H⟩

def value_reader_fail (x0 : Option Addr) : M (Value ⊕ (Unit)):=do
  let x3_1 ← nilP x0
  let x5_2 ← ldI .i64 ((x3_1).add 1)
  M.pure (.inl (Value.iface ty_value_wrong (.agg (#[.int .i64 x5_2] : Array Value))))
theorem S_value_reader_fail (x0 : Option Addr) : SoundX Go.Proofs.Tryz.prog 132 #[.pointer x0] (fun (r : Unit)=>.tuple #[]) (value_reader_fail x0):=by
  refine sound_ofX [(0,.pointer x0)] Go.Proofs.Tryz.func132 rfl rfl (Nat.le_of_ble_eq_true rfl) (args_of ⟨rfl,trivial⟩) (fun w0 w Q R X a hret hthr hE hR H=>?_)
  unfold value_reader_fail at H
  refine t_region ?_
  refine t_val (v:=.pointer x0) rfl rfl hE rfl (r_move hE rfl) (fun a hE=>?_)
  obtain ⟨x3_1,qx3_1,H⟩:=H
  refine t_val (v:=.pointer (some x3_1)) rfl rfl hE rfl (r_nilCheck hE (hx_eq rfl (congrArg Value.pointer qx3_1))) (fun a hE=>?_)
  refine t_val (v:=.pointer (some ((x3_1).add 1))) rfl rfl hE rfl (r_fieldAddr hE rfl fd146_1) (fun a hE=>?_)
  obtain ⟨x5_2,qx5_2,H⟩:=H
  refine t_val (v:=.int .i64 x5_2) rfl rfl hE rfl (r_load hE rfl sc3 qx5_2) (fun a hE=>?_)
  refine t_val (v:=.agg (#[.int .i64 x5_2] : Array Value)) rfl rfl hE rfl (r_build hE rfl zr142 pl142 (by rfl)) (fun a hE=>?_)
  refine t_val (v:=(Value.iface ty_value_wrong (.agg (#[.int .i64 x5_2] : Array Value)))) rfl rfl hE rfl (r_mkIface hE rfl ni142) (fun a hE=>?_)
  exact t_panic hE rfl (hthr _ _ hR H)

theorem tb170_1 : tabAt Go.Proofs.Tryz.f170 1 [[],[0],[1],[2],[],[4],[5],[6],[7],[3,8]] [[],[0],[1],[2],[],[4],[5],[6],[7],[3,8]] [[],[0],[0,1],[0,1,2],[],[4],[4,5],[4,5,6],[4,5,6,7],[0,1,2,3,4,5,6,7,8]] = true:=by kernel_rfl
theorem tb170_2 : tabAt Go.Proofs.Tryz.f170 2 [[],[0],[1],[2],[],[4],[5],[6],[3,7],[8,0,1,2,3,4,5,6,7,8]] [[],[0],[1],[2],[],[4],[5],[6],[3,7],[8]] [[],[0],[0,1],[0,1,2],[],[4],[4,5],[4,5,6],[0,1,2,3,4,5,6,7],[0,1,2,3,4,5,6,7,8]] = true:=by kernel_rfl
def value_reader_here (x0 : Option Addr) : M (Int):=do
  let x4_4 ← nilP x0
  let x8_5 ← nilP x0
  let x6_6 ← ldI .i64 ((x4_4).add 1)
  let x10_7 ← ldS ((x8_5).add 0)
  M.ite (decide (x6_6 < (x10_7.size : Int))) (do
    let x14_9 ← nilP x0
    let x18_10 ← nilP x0
    let x16_11 ← ldS ((x14_9).add 0)
    let x20_12 ← ldI .i64 ((x18_10).add 1)
    let x21_13 ← ixS x16_11 x20_12
    M.pure x21_13
    ) (do
    M.pure 0
    )
theorem S_value_reader_here (x0 : Option Addr) : Sound Go.Proofs.Tryz.prog 170 #[.pointer x0] (fun (r : Int)=>.int .u8 r) (value_reader_here x0):=by
  refine sound_of [(0,.pointer x0)] Go.Proofs.Tryz.func170 rfl rfl (Nat.le_of_ble_eq_true rfl) (args_of ⟨rfl,trivial⟩) (fun w0 w Q R a hret hE hR H=>?_)
  unfold value_reader_here at H
  refine w_seq (fun K hK_1=>?_)
  refine t_region ?_
  refine t_val (v:=.int .u8 0) rfl rfl hE rfl (r_assign hE rfl) (fun a hE=>?_)
  refine t_nil ?_
  refine hK_1 _ _ ?_
  refine w_seq (fun K hK_2=>?_)
  refine w_seq (fun K hK_3=>?_)
  obtain ⟨x4_4,qx4_4,H⟩:=H
  obtain ⟨x8_5,qx8_5,H⟩:=H
  obtain ⟨x6_6,qx6_6,H⟩:=H
  obtain ⟨x10_7,qx10_7,H⟩:=H
  have hT:=tab_of tb170_1 rfl rfl
  refine d_start (fun w : World=>(fun h : Heap=>(hcell h ((x4_4).add 1) = some (.int .i64 x6_6)) ∧ (hcell h ((x8_5).add 0) = some (.string x10_7))) w.heap) [9] #[false,false,false,false,false,false,false,false,false,false] mo hR rfl rfl (fun w' e=>by rw [e]; exact ⟨qx6_6,qx10_7⟩) (fun w hh hR hs=>?_)
  replace H:=M.at hh H; clear hh
  refine d_pureg (i:=0) (v:=.pointer x0) #[true,false,false,false,false,false,false,false,false,false] rfl rfl hT (by kernel_rfl) hE rfl (wanted_none rfl) (fun w=>r_move hE rfl) (fun a hE=>?_)
  refine d_pureg (i:=1) (v:=.pointer (some x4_4)) #[true,true,false,false,false,false,false,false,false,false] rfl rfl hT (by kernel_rfl) hE rfl (wanted_none rfl) (fun w=>r_nilCheck hE (hx_eq rfl (congrArg Value.pointer qx4_4))) (fun a hE=>?_)
  refine d_pureg (i:=2) (v:=.pointer (some ((x4_4).add 1))) #[true,true,true,false,false,false,false,false,false,false] rfl rfl hT (by kernel_rfl) hE rfl (wanted_none rfl) (fun w=>r_fieldAddr hE rfl fd146_1) (fun a hE=>?_)
  refine d_pureg (i:=4) (v:=.pointer x0) #[true,true,true,false,true,false,false,false,false,false] rfl rfl hT (by kernel_rfl) hE rfl (wanted_none rfl) (fun w=>r_move hE rfl) (fun a hE=>?_)
  refine d_pureg (i:=5) (v:=.pointer (some x8_5)) #[true,true,true,false,true,true,false,false,false,false] rfl rfl hT (by kernel_rfl) hE rfl (wanted_none rfl) (fun w=>r_nilCheck hE (hx_eq rfl (congrArg Value.pointer qx8_5))) (fun a hE=>?_)
  refine d_pureg (i:=6) (v:=.pointer (some ((x8_5).add 0))) #[true,true,true,false,true,true,true,false,false,false] rfl rfl hT (by kernel_rfl) hE rfl (wanted_none rfl) (fun w=>r_fieldAddr hE rfl fd146_0) (fun a hE=>?_)
  refine d_read (i:=3) (v:=.int .i64 x6_6) #[true,true,true,true,true,true,true,false,false,false] rfl rfl hT (by kernel_rfl) hE rfl (wanted_none rfl) hs (fun w s=>r_load hE rfl sc3 s.1) (fun a hE=>?_)
  refine d_read (i:=7) (v:=.string x10_7) #[true,true,true,true,true,true,true,true,false,false] rfl rfl hT (by kernel_rfl) hE rfl (wanted_none rfl) hs (fun w s=>r_load hE rfl sc9 s.2) (fun a hE=>?_)
  refine d_pureg (i:=8) (v:=.int .i64 (x10_7.size : Int)) #[true,true,true,true,true,true,true,true,true,false] rfl rfl hT (by kernel_rfl) hE rfl (wanted_none rfl) (fun w=>r_lenS hE rfl un9) (fun a hE=>?_)
  refine d_pureg (i:=9) (v:=.bool (decide (x6_6 < (x10_7.size : Int)))) #[true,true,true,true,true,true,true,true,true,true] rfl rfl hT (by kernel_rfl) hE rfl (wanted_none rfl) (fun w=>r_bin hE rfl rfl g_int b_lss) (fun a hE=>?_)
  refine d_done hT (by kernel_rfl) ?_
  refine hK_3 _ _ ?_
  refine w_cond (decide (x6_6 < (x10_7.size : Int))) hE rfl (fun hb=>?_) (fun hb=>?_)
  · replace H:=M.ite_t hb H
    refine w_seq (fun K hK_8=>?_)
    obtain ⟨x14_9,qx14_9,H⟩:=H
    obtain ⟨x18_10,qx18_10,H⟩:=H
    obtain ⟨x16_11,qx16_11,H⟩:=H
    obtain ⟨x20_12,qx20_12,H⟩:=H
    obtain ⟨x21_13,qx21_13,H⟩:=H
    have hT:=tab_of tb170_2 rfl rfl
    refine d_start (fun w : World=>(fun h : Heap=>(hcell h ((x14_9).add 0) = some (.string x16_11)) ∧ (hcell h ((x18_10).add 1) = some (.int .i64 x20_12))) w.heap) [8,9] #[false,false,false,false,false,false,false,false,false,false] mo hR rfl rfl (fun w' e=>by rw [e]; exact ⟨qx16_11,qx20_12⟩) (fun w hh hR hs=>?_)
    replace H:=M.at hh H; clear hh
    refine d_pureg (i:=0) (v:=.pointer x0) #[true,false,false,false,false,false,false,false,false,false] rfl rfl hT (by kernel_rfl) hE rfl (wanted_none rfl) (fun w=>r_move hE rfl) (fun a hE=>?_)
    refine d_pureg (i:=1) (v:=.pointer (some x14_9)) #[true,true,false,false,false,false,false,false,false,false] rfl rfl hT (by kernel_rfl) hE rfl (wanted_none rfl) (fun w=>r_nilCheck hE (hx_eq rfl (congrArg Value.pointer qx14_9))) (fun a hE=>?_)
    refine d_pureg (i:=2) (v:=.pointer (some ((x14_9).add 0))) #[true,true,true,false,false,false,false,false,false,false] rfl rfl hT (by kernel_rfl) hE rfl (wanted_none rfl) (fun w=>r_fieldAddr hE rfl fd146_0) (fun a hE=>?_)
    refine d_pureg (i:=4) (v:=.pointer x0) #[true,true,true,false,true,false,false,false,false,false] rfl rfl hT (by kernel_rfl) hE rfl (wanted_none rfl) (fun w=>r_move hE rfl) (fun a hE=>?_)
    refine d_pureg (i:=5) (v:=.pointer (some x18_10)) #[true,true,true,false,true,true,false,false,false,false] rfl rfl hT (by kernel_rfl) hE rfl (wanted_none rfl) (fun w=>r_nilCheck hE (hx_eq rfl (congrArg Value.pointer qx18_10))) (fun a hE=>?_)
    refine d_pureg (i:=6) (v:=.pointer (some ((x18_10).add 1))) #[true,true,true,false,true,true,true,false,false,false] rfl rfl hT (by kernel_rfl) hE rfl (wanted_none rfl) (fun w=>r_fieldAddr hE rfl fd146_1) (fun a hE=>?_)
    refine d_read (i:=3) (v:=.string x16_11) #[true,true,true,true,true,true,true,false,false,false] rfl rfl hT (by kernel_rfl) hE rfl (wanted_none rfl) hs (fun w s=>r_load hE rfl sc9 s.1) (fun a hE=>?_)
    refine d_read (i:=7) (v:=.int .i64 x20_12) #[true,true,true,true,true,true,true,true,false,false] rfl rfl hT (by kernel_rfl) hE rfl (wanted_none rfl) hs (fun w s=>r_load hE rfl sc3 s.2) (fun a hE=>?_)
    refine d_pureg (i:=8) (v:=.int .u8 x21_13) #[true,true,true,true,true,true,true,true,true,false] rfl rfl hT (by kernel_rfl) hE rfl (wanted_none rfl) (fun w=>r_indexS hE rfl rfl un9 qx21_13) (fun a hE=>?_)
    refine d_pureg (i:=9) (v:=.int .u8 x21_13) #[true,true,true,true,true,true,true,true,true,true] rfl rfl hT (by kernel_rfl) hE rfl (wanted_none rfl) (fun w=>r_assign hE rfl) (fun a hE=>?_)
    refine d_done hT (by kernel_rfl) ?_
    refine hK_8 _ _ ?_
    refine w_ret ?_
    exact hret _ _ _ x21_13 _ hE hR (res_run hE rfl (RV.tmp rfl RV.nil)) rfl H
  · replace H:=M.ite_f hb H
    refine w_skip ?_
    refine hK_2 _ _ ?_
    refine w_seq (fun K hK_14=>?_)
    refine t_region ?_
    refine t_val (v:=.int .u8 0) rfl rfl hE rfl (r_assign hE rfl) (fun a hE=>?_)
    refine t_nil ?_
    refine hK_14 _ _ ?_
    refine w_ret ?_
    exact hret _ _ _ 0 _ hE hR (res_run hE rfl (RV.tmp rfl RV.nil)) rfl H

def value_digit (x0 : Int) : M (Bool):=do
  let x8_3 ← M.ite (decide (x0 ≥ 48)) (do
    M.pure (decide (x0 ≤ 57))
    ) (do
    M.pure false
    )
  M.pure x8_3
theorem S_value_digit (x0 : Int) : Sound Go.Proofs.Tryz.prog 171 #[.int .u8 x0] (fun (r : Bool)=>.bool r) (value_digit x0):=by
  refine sound_of [(0,.int .u8 x0)] Go.Proofs.Tryz.func171 rfl rfl (Nat.le_of_ble_eq_true rfl) (args_of ⟨rfl,trivial⟩) (fun w0 w Q R a hret hE hR H=>?_)
  unfold value_digit at H
  refine w_seq (fun K hK_1=>?_)
  refine t_region ?_
  refine t_val (v:=.bool false) rfl rfl hE rfl (r_assign hE rfl) (fun a hE=>?_)
  refine t_nil ?_
  refine hK_1 _ _ ?_
  refine w_seq (fun K hK_2=>?_)
  refine t_region ?_
  refine t_val (v:=.int .u8 x0) rfl rfl hE rfl (r_move hE rfl) (fun a hE=>?_)
  refine t_val (v:=.bool (decide (x0 ≥ 48))) rfl rfl hE rfl (r_bin hE rfl rfl g_int b_geq) (fun a hE=>?_)
  refine t_val (v:=.bool (decide (x0 ≥ 48))) rfl rfl hE rfl (r_move hE rfl) (fun a hE=>?_)
  refine t_grp (n:=(⟨9,[]⟩ : Frm)) (w0:=w0) 3 (fun x8_3 : Bool=>[(2,.bool false),(8,.bool x8_3)]) (M.unbind H) (fun Kr hKr H=>?_) ?_
  · rcases bool_em (decide (x0 ≥ 48)) with hb | hb
    · replace H:=M.ite_t hb H
      have hE:=hE.reb 5 (decide (x0 ≥ 48)) true hb rfl
      refine t_on rfl hE rfl rfl rfl ?_
      refine t_val (v:=.int .u8 x0) rfl rfl hE rfl (r_move hE rfl) (fun a hE=>?_)
      refine t_on rfl hE rfl rfl rfl ?_
      refine t_val (v:=.bool (decide (x0 ≤ 57))) rfl rfl hE rfl (r_bin hE rfl rfl g_int b_leq) (fun a hE=>?_)
      refine t_val rfl rfl hE rfl (r_pick_t hE rfl rfl) (fun a hE=>?_)
      refine t_nil ?_
      exact hKr _ _ _ (hE.cut (.cons rfl (.cons rfl Subs.nil))) hR H
    · replace H:=M.ite_f hb H
      have hE:=hE.reb 5 (decide (x0 ≥ 48)) false hb rfl
      refine t_off rfl hE rfl rfl rfl (fun a ea=>?_)
      have hE:=Env.put_some hE rfl ea; clear ea
      refine t_off rfl hE rfl rfl rfl (fun a ea=>?_)
      have hE:=Env.put_some hE rfl ea; clear ea
      refine t_val rfl rfl hE rfl (r_pick_f hE rfl rfl) (fun a hE=>?_)
      refine t_nil ?_
      exact hKr _ _ _ (hE.cut (.cons rfl (.cons rfl Subs.nil))) hR H
  · intro x8_3 a w hE hR H
    refine t_val (v:=.bool x8_3) rfl rfl hE rfl (r_assign hE rfl) (fun a hE=>?_)
    refine t_nil ?_
    refine hK_2 _ _ ?_
    refine w_ret ?_
    exact hret _ _ _ x8_3 _ hE hR (res_run hE rfl (RV.tmp rfl RV.nil)) rfl H

end Gx
namespace Gx
open Go
set_option linter.unusedVariables false
set_option maxRecDepth 100000
noncomputable def ro172_9 : Array Oper:=opsOf Go.Proofs.Tryz.f172 9
def tE172_9 : List (List Nat):=[[],[0],[1],[2],[],[],[5],[6],[7],[8],[3,4,9],[10],[11],[12],[12],[13,11,0,1,2,3,4,5,6,7,8,9,10,11,12,13],[14,15,0,1,2,3,4,5,6,7,8,9,10,11,12,13,14,15]]
def tC172_9 : List (List Nat):=[[],[0],[1],[2],[],[],[5],[6],[7],[8],[3,4,9],[10],[11],[12],[12],[13],[14]]
def tW172_9 : List (List Nat):=[[],[0],[0,1],[0,1,2],[],[],[5],[5,6],[5,6,7],[5,6,7,8],[0,1,2,3,4,5,6,7,8,9],[0,1,2,3,4,5,6,7,8,9,10],[0,1,2,3,4,5,6,7,8,9,10,11],[0,1,2,3,4,5,6,7,8,9,10,11,12],[0,1,2,3,4,5,6,7,8,9,10,11,12],[0,1,2,3,4,5,6,7,8,9,10,11,12,13],[0,1,2,3,4,5,6,7,8,9,10,11,12,13,14,15]]
theorem tb172_9 : tabAt Go.Proofs.Tryz.f172 9 tE172_9 tC172_9 tW172_9 = true:=by kernel_rfl
theorem tb172_9m : tabMB 17 tE172_9 tC172_9 tW172_9 [0,1,2,4,0,0,32,64,128,256,536,1024,2048,4096,4096,16383,65535] [0,1,2,4,0,0,32,64,128,256,536,1024,2048,4096,4096,8192,16384] [0,1,3,7,0,0,32,96,224,480,1023,2047,4095,8191,8191,16383,65535] = true:=by kernel_rfl
def value_reader_number_j3 (self1 : (Int) → M (Value ⊕ (Int))) (c0_29 : Option Addr) (c5_31 : Int) (c6_32 : Int) (c7_33 : Int) : M (Value ⊕ (Int)):=do
  M.ite (c7_33 != 0) (do
    M.pure (.inr c5_31)
    ) (do
    let x69_38 ← nilP c0_29
    let x71_39 ← ldI .i64 ((x69_38).add 1)
    let x73_40 ← nilP c0_29
    stV ((x73_40).add 1) (.int .i64 (IntKind.wrap .i64 (x71_39 + 1)))
    self1 c6_32
    )
def value_reader_number_l1 (c0_15 : Option Addr) (c3_16 : Int) (self1 : (Int) → M (Value ⊕ (Int))) : (Int) → M (Value ⊕ (Int)):=fun s=>match s with
  | x5_14=>do
    let x43_20 ← value_reader_here c0_15
    let x44_21 ← value_digit x43_20
    M.ite x44_21 (do
      let x47_23 ← nilP c0_15
      let x52_24 ← nilP c0_15
      let x49_25 ← ldS ((x47_23).add 0)
      let x54_26 ← ldI .i64 ((x52_24).add 1)
      let x56_27 ← slS x49_25 c3_16 (IntKind.wrap .i64 (x54_26 + 1))
      let x57_28 ← callF Go.Proofs.Tryz.prog fn_num_Parse #[.string x56_27] (fun r : Int × Int=>.tuple #[.int .i64 r.1,.int .i64 r.2])
      M.ite (x57_28.2 == 7) (do
        thr (value_reader_fail c0_15) fun x63_43=>do
          value_reader_number_j3 self1 c0_15 x5_14 x57_28.1 x57_28.2
        ) (do
        value_reader_number_j3 self1 c0_15 x5_14 x57_28.1 x57_28.2
        )
      ) (do
      M.pure (.inr x5_14)
      )
def value_reader_number_j2 (c0_10 : Option Addr) (c3_11 : Int) : M (Value ⊕ (Int)):=do
  M.loop (value_reader_number_l1 c0_10 c3_11) 0
def value_reader_number_j1 (c0_5 : Option Addr) (c3_6 : Int) : M (Value ⊕ (Int)):=do
  let x23_8 ← nilP c0_5
  let x25_9 ← ldI .i64 ((x23_8).add 1)
  let x29_46 ← value_reader_here c0_5
  let x30_47 ← value_digit x29_46
  let x39_48 ← M.ite (!x30_47) (do
    M.pure true
    ) (do
    let x38_49 ← M.ite (decide (x25_9 > c3_6)) (do
      let x36_50 ← value_reader_here c0_5
      M.pure (x36_50 == 48)
      ) (do
      M.pure false
      )
    M.pure x38_49
    )
  M.ite x39_48 (do
    thr (value_reader_fail c0_5) fun x41_51=>do
      value_reader_number_j2 c0_5 c3_6
    ) (do
    value_reader_number_j2 c0_5 c3_6
    )
def value_reader_number (x0 : Option Addr) : M (Value ⊕ (Int)):=do
  let x9_3 ← nilP x0
  let x11_4 ← ldI .i64 ((x9_3).add 1)
  let x13_53 ← value_reader_here x0
  M.ite (x13_53 == 45) (do
    let x16_54 ← nilP x0
    let x18_55 ← ldI .i64 ((x16_54).add 1)
    let x20_56 ← nilP x0
    stV ((x20_56).add 1) (.int .i64 (IntKind.wrap .i64 (x18_55 + 1)))
    value_reader_number_j1 x0 x11_4
    ) (do
    value_reader_number_j1 x0 x11_4
    )
theorem S_value_reader_number (x0 : Option Addr) : SoundX Go.Proofs.Tryz.prog 172 #[.pointer x0] (fun (r : Int)=>.int .i64 r) (value_reader_number x0):=by
  refine sound_ofX [(0,.pointer x0)] Go.Proofs.Tryz.func172 rfl rfl (Nat.le_of_ble_eq_true rfl) (args_of ⟨rfl,trivial⟩) (fun w0 w Q R X a hret hthr hE hR H=>?_)
  unfold value_reader_number at H
  refine w_seq (fun K hK_1=>?_)
  refine t_region ?_
  refine t_val (v:=.int .i64 0) rfl rfl hE rfl (r_assign hE rfl) (fun a hE=>?_)
  refine t_nil ?_
  refine hK_1 _ _ ?_
  refine w_seq (fun K hK_2=>?_)
  refine t_region ?_
  refine t_val (v:=.pointer x0) rfl rfl hE rfl (r_move hE rfl) (fun a hE=>?_)
  obtain ⟨x9_3,qx9_3,H⟩:=H
  refine t_val (v:=.pointer (some x9_3)) rfl rfl hE rfl (r_nilCheck hE (hx_eq rfl (congrArg Value.pointer qx9_3))) (fun a hE=>?_)
  refine t_val (v:=.pointer (some ((x9_3).add 1))) rfl rfl hE rfl (r_fieldAddr hE rfl fd146_1) (fun a hE=>?_)
  obtain ⟨x11_4,qx11_4,H⟩:=H
  refine t_val (v:=.int .i64 x11_4) rfl rfl hE rfl (r_load hE rfl sc3 qx11_4) (fun a hE=>?_)
  refine t_val (v:=.int .i64 x11_4) rfl rfl hE rfl (r_assign hE rfl) (fun a hE=>?_)
  refine t_nil ?_
  refine hK_2 _ _ ?_
  refine w_seq_join (fun a w=>Env (⟨76,[]⟩ : Frm) a [(0,.pointer x0),(3,.int .i64 x11_4)] ∧ Rest w0 w ∧ (value_reader_number_j1 x0 x11_4).wp w.heap Q) ?_ ?_
  · rintro a w ⟨hE,hR,H⟩
    unfold value_reader_number_j1 at H
    refine w_seq (fun K hK_7=>?_)
    refine t_region ?_
    refine t_val (v:=.pointer x0) rfl rfl hE rfl (r_move hE rfl) (fun a hE=>?_)
    obtain ⟨x23_8,qx23_8,H⟩:=H
    refine t_val (v:=.pointer (some x23_8)) rfl rfl hE rfl (r_nilCheck hE (hx_eq rfl (congrArg Value.pointer qx23_8))) (fun a hE=>?_)
    refine t_val (v:=.pointer (some ((x23_8).add 1))) rfl rfl hE rfl (r_fieldAddr hE rfl fd146_1) (fun a hE=>?_)
    obtain ⟨x25_9,qx25_9,H⟩:=H
    refine t_val (v:=.int .i64 x25_9) rfl rfl hE rfl (r_load hE rfl sc3 qx25_9) (fun a hE=>?_)
    refine t_val (v:=.int .i64 x11_4) rfl rfl hE rfl (r_move hE rfl) (fun a hE=>?_)
    refine t_val (v:=.bool (decide (x25_9 > x11_4))) rfl rfl hE rfl (r_bin hE rfl rfl g_int b_gtr) (fun a hE=>?_)
    refine t_val (v:=.bool (decide (x25_9 > x11_4))) rfl rfl hE rfl (r_assign hE rfl) (fun a hE=>?_)
    refine t_nil ?_
    refine hK_7 _ _ ?_
    refine w_seq_join (fun a w=>Env (⟨76,[]⟩ : Frm) a [(0,.pointer x0),(3,.int .i64 x11_4)] ∧ Rest w0 w ∧ (value_reader_number_j2 x0 x11_4).wp w.heap Q) ?_ ?_
    · rintro a w ⟨hE,hR,H⟩
      unfold value_reader_number_j2 at H
      refine w_seq (fun K hK_12=>?_)
      refine t_region ?_
      refine t_val (v:=.int .i64 0) rfl rfl hE rfl (r_assign hE rfl) (fun a hE=>?_)
      refine t_nil ?_
      refine hK_12 _ _ ?_
      refine w_seq (fun K hK_13=>?_)
      refine w_block ?_
      refine l_loop (fun (s : Int)=>(⟨76,[]⟩ : Frm)) (fun (s : Int)=>[(0,.pointer x0),(3,.int .i64 x11_4),(5,.int .i64 s)]) H (hE.cut (.cons rfl (.cons rfl (.cons rfl Subs.nil)))) hR (fun Y self1 hY_17 x5_14 a w hE hR H=>?_)
      replace hE : Env (⟨76,[]⟩ : Frm) a [(0,.pointer x0),(3,.int .i64 x11_4),(5,.int .i64 x5_14)]:=hE
      replace H : (value_reader_number_l1 x0 x11_4 self1 x5_14).wp w.heap Q:=H
      unfold value_reader_number_l1 at H
      refine w_seq (fun K hK_18=>?_)
      refine w_seq (fun K hK_19=>?_)
      refine t_region ?_
      refine t_val (v:=.pointer x0) rfl rfl hE rfl (r_move hE rfl) (fun a hE=>?_)
      refine t_call hE hR cl_value_reader_here rfl (S_value_reader_here x0) (M.unbind H) (fun x43_20 a w ea hR H=>?_)
      have hE:=Env.put_some hE rfl ea; clear ea
      refine t_call hE hR cl_value_digit rfl (S_value_digit x43_20) (M.unbind H) (fun x44_21 a w ea hR H=>?_)
      have hE:=Env.put_some hE rfl ea; clear ea
      refine t_nil ?_
      refine hK_19 _ _ ?_
      refine w_cond x44_21 hE rfl (fun hb=>?_) (fun hb=>?_)
      · replace H:=M.ite_t hb H
        refine w_skip ?_
        refine hK_18 _ _ ?_
        refine w_block ?_
        refine w_seq (fun K hK_22=>?_)
        obtain ⟨x47_23,qx47_23,H⟩:=H
        obtain ⟨x52_24,qx52_24,H⟩:=H
        obtain ⟨x49_25,qx49_25,H⟩:=H
        obtain ⟨x54_26,qx54_26,H⟩:=H
        obtain ⟨x56_27,qx56_27,H⟩:=H
        refine reg_eq (rops:=ro172_9) (by kernel_rfl) ?_
        have hT : Tab ro172_9 _ _ _:=tab_of tb172_9 rfl (by kernel_rfl)
        have hM:=TabM.of tb172_9m
        refine d_start (m:=17) (fun w : World=>(fun h : Heap=>(hcell h ((x47_23).add 0) = some (.string x49_25)) ∧ (hcell h ((x52_24).add 1) = some (.int .i64 x54_26))) w.heap) [10,11,12,13,14,15,16] (unb 17 0) mo hR (by kernel_rfl) (by kernel_rfl) (fun w' e=>by rw [e]; exact ⟨qx49_25,qx54_26⟩) (fun w hh hR hs=>?_)
        replace H:=M.at hh H; clear hh
        refine d_pureg (i:=0) (v:=.pointer x0) (unb 17 1) rfl rfl hT (anyM hM (by kernel_rfl)) hE rfl (wanted_none rfl) (fun w=>r_move hE rfl) (fun a hE=>?_)
        refine d_pureg (i:=1) (v:=.pointer (some x47_23)) (unb 17 3) rfl rfl hT (anyM hM (by kernel_rfl)) hE rfl (wanted_none rfl) (fun w=>r_nilCheck hE (hx_eq rfl (congrArg Value.pointer qx47_23))) (fun a hE=>?_)
        refine d_pureg (i:=2) (v:=.pointer (some ((x47_23).add 0))) (unb 17 7) rfl rfl hT (anyM hM (by kernel_rfl)) hE rfl (wanted_none rfl) (fun w=>r_fieldAddr hE rfl fd146_0) (fun a hE=>?_)
        refine d_pureg (i:=4) (v:=.int .i64 x11_4) (unb 17 23) rfl rfl hT (anyM hM (by kernel_rfl)) hE rfl (wanted_none rfl) (fun w=>r_move hE rfl) (fun a hE=>?_)
        refine d_pureg (i:=5) (v:=.pointer x0) (unb 17 55) rfl rfl hT (anyM hM (by kernel_rfl)) hE rfl (wanted_none rfl) (fun w=>r_move hE rfl) (fun a hE=>?_)
        refine d_pureg (i:=6) (v:=.pointer (some x52_24)) (unb 17 119) rfl rfl hT (anyM hM (by kernel_rfl)) hE rfl (wanted_none rfl) (fun w=>r_nilCheck hE (hx_eq rfl (congrArg Value.pointer qx52_24))) (fun a hE=>?_)
        refine d_pureg (i:=7) (v:=.pointer (some ((x52_24).add 1))) (unb 17 247) rfl rfl hT (anyM hM (by kernel_rfl)) hE rfl (wanted_none rfl) (fun w=>r_fieldAddr hE rfl fd146_1) (fun a hE=>?_)
        refine d_read (i:=3) (v:=.string x49_25) (unb 17 255) rfl rfl hT (takeM hM (by kernel_rfl)) hE rfl (wanted_none rfl) hs (fun w s=>r_load hE rfl sc9 s.1) (fun a hE=>?_)
        refine d_read (i:=8) (v:=.int .i64 x54_26) (unb 17 511) rfl rfl hT (takeM hM (by kernel_rfl)) hE rfl (wanted_none rfl) hs (fun w s=>r_load hE rfl sc3 s.2) (fun a hE=>?_)
        refine d_pureg (i:=9) (v:=.int .i64 (IntKind.wrap .i64 (x54_26 + 1))) (unb 17 1023) rfl rfl hT (anyM hM (by kernel_rfl)) hE rfl (wanted_none rfl) (fun w=>r_bin hE rfl rfl g_int b_add) (fun a hE=>?_)
        refine d_pureg (i:=10) (v:=.string x56_27) (unb 17 2047) rfl rfl hT (anyM hM (by kernel_rfl)) hE rfl (wanted_none rfl) (fun w=>r_sliceS_lh hE rfl rfl rfl un9 qx56_27) (fun a hE=>?_)
        refine d_calll (i:=11) (unb 17 4095) rfl rfl rfl hT (oneM hM (by kernel_rfl)) rfl hE hR (wanted_none rfl) cl_num_Parse rfl (sound_callF) (M.unbind H) (fun x57_28 a w ea hR H=>?_)
        have hE:=Env.put_some hE rfl ea; clear ea
        refine d_pureg (i:=12) (v:=.tuple #[.int .i64 x57_28.1,.int .i64 x57_28.2]) (unb 17 8191) rfl rfl hT (anyM hM (by kernel_rfl)) hE rfl (wanted_none rfl) (fun w=>r_move hE rfl) (fun a hE=>?_)
        refine d_pureg (i:=13) (v:=.int .i64 x57_28.1) (unb 17 16383) rfl rfl hT (anyM hM (by kernel_rfl)) hE rfl (wanted_none rfl) (fun w=>r_extract hE rfl rfl) (fun a hE=>?_)
        refine d_pureg (i:=14) (v:=.int .i64 x57_28.2) (unb 17 32767) rfl rfl hT (anyM hM (by kernel_rfl)) hE rfl (wanted_none rfl) (fun w=>r_extract hE rfl rfl) (fun a hE=>?_)
        refine d_pureg (i:=15) (v:=.int .i64 x57_28.1) (unb 17 65535) rfl rfl hT (anyM hM (by kernel_rfl)) hE rfl (wanted_none rfl) (fun w=>r_assign hE rfl) (fun a hE=>?_)
        refine d_pureg (i:=16) (v:=.int .i64 x57_28.2) (unb 17 131071) rfl rfl hT (anyM hM (by kernel_rfl)) hE rfl (wanted_none rfl) (fun w=>r_assign hE rfl) (fun a hE=>?_)
        refine d_done hT (doneM hM (by kernel_rfl)) ?_
        refine hK_22 _ _ ?_
        refine w_seq_join (fun a w=>Env (⟨76,[]⟩ : Frm) a [(0,.pointer x0),(3,.int .i64 x11_4),(5,.int .i64 x5_14),(6,.int .i64 x57_28.1),(7,.int .i64 x57_28.2)] ∧ Rest w0 w ∧ (value_reader_number_j3 self1 x0 x5_14 x57_28.1 x57_28.2).wp w.heap Q) ?_ ?_
        · rintro a w ⟨hE,hR,H⟩
          unfold value_reader_number_j3 at H
          refine w_seq (fun K hK_34=>?_)
          refine w_seq (fun K hK_35=>?_)
          refine t_region ?_
          refine t_val (v:=.int .i64 x57_28.2) rfl rfl hE rfl (r_move hE rfl) (fun a hE=>?_)
          refine t_val (v:=.bool (x57_28.2 != 0)) rfl rfl hE rfl (r_bin hE rfl rfl g_int b_neq) (fun a hE=>?_)
          refine t_nil ?_
          refine hK_35 _ _ ?_
          refine w_cond (x57_28.2 != 0) hE rfl (fun hb=>?_) (fun hb=>?_)
          · replace H:=M.ite_t hb H
            refine w_seq (fun K hK_36=>?_)
            refine t_region ?_
            refine t_val (v:=.int .i64 x5_14) rfl rfl hE rfl (r_move hE rfl) (fun a hE=>?_)
            refine t_val (v:=.int .i64 x5_14) rfl rfl hE rfl (r_assign hE rfl) (fun a hE=>?_)
            refine t_nil ?_
            refine hK_36 _ _ ?_
            refine w_ret ?_
            exact hret _ _ _ x5_14 _ hE hR (res_run hE rfl (RV.tmp rfl RV.nil)) rfl H
          · replace H:=M.ite_f hb H
            refine w_skip ?_
            refine hK_34 _ _ ?_
            refine w_seq (fun K hK_37=>?_)
            refine t_region ?_
            refine t_val (v:=.int .i64 x57_28.1) rfl rfl hE rfl (r_move hE rfl) (fun a hE=>?_)
            refine t_val (v:=.int .i64 x57_28.1) rfl rfl hE rfl (r_assign hE rfl) (fun a hE=>?_)
            refine t_nil ?_
            refine hK_37 _ _ ?_
            refine t_region ?_
            refine t_val (v:=.pointer x0) rfl rfl hE rfl (r_move hE rfl) (fun a hE=>?_)
            obtain ⟨x69_38,qx69_38,H⟩:=H
            refine t_val (v:=.pointer (some x69_38)) rfl rfl hE rfl (r_nilCheck hE (hx_eq rfl (congrArg Value.pointer qx69_38))) (fun a hE=>?_)
            refine t_val (v:=.pointer (some ((x69_38).add 1))) rfl rfl hE rfl (r_fieldAddr hE rfl fd146_1) (fun a hE=>?_)
            obtain ⟨x71_39,qx71_39,H⟩:=H
            refine t_val (v:=.int .i64 x71_39) rfl rfl hE rfl (r_load hE rfl sc3 qx71_39) (fun a hE=>?_)
            refine t_val (v:=.int .i64 (IntKind.wrap .i64 (x71_39 + 1))) rfl rfl hE rfl (r_bin hE rfl rfl g_int b_add) (fun a hE=>?_)
            obtain ⟨x73_40,qx73_40,H⟩:=H
            refine t_val (v:=.pointer (some x73_40)) rfl rfl hE rfl (r_nilCheck hE (hx_eq rfl (congrArg Value.pointer qx73_40))) (fun a hE=>?_)
            refine t_val (v:=.pointer (some ((x73_40).add 1))) rfl rfl hE rfl (r_fieldAddr hE rfl fd146_1) (fun a hE=>?_)
            obtain ⟨u_41,qu_41,H⟩:=H
            refine t_sth rfl rfl hE hR (r_store hE rfl rfl sz3 qu_41) (fun a w hE hR hh=>?_)
            replace H:=M.at hh H; clear hh
            refine t_nil ?_
            exact hY_17 x57_28.1 _ _ (hE.cut (.cons rfl (.cons rfl (.cons rfl Subs.nil)))) hR H
        · skip
          refine w_seq (fun K hK_42=>?_)
          refine t_region ?_
          refine t_val (v:=.int .i64 x57_28.2) rfl rfl hE rfl (r_move hE rfl) (fun a hE=>?_)
          refine t_val (v:=.bool (x57_28.2 == 7)) rfl rfl hE rfl (r_bin hE rfl rfl g_int b_eql) (fun a hE=>?_)
          refine t_nil ?_
          refine hK_42 _ _ ?_
          refine w_cond (x57_28.2 == 7) hE rfl (fun hb=>?_) (fun hb=>?_)
          · replace H:=M.ite_t hb H
            refine t_region ?_
            refine t_val (v:=.pointer x0) rfl rfl hE rfl (r_move hE rfl) (fun a hE=>?_)
            refine t_callX hE hR cl_value_reader_fail rfl (S_value_reader_fail x0) H (fun _ _ hR HQ=>Xu.ne rfl (Xu.ne rfl (hthr _ _ hR HQ))) (fun x63_43 a w ea hR H=>?_)
            have hE:=Env.put_some hE rfl ea; clear ea
            refine t_nil ?_
            exact ⟨hE.cut (.cons rfl (.cons rfl (.cons rfl (.cons rfl (.cons rfl Subs.nil))))),hR,H⟩
          · replace H:=M.ite_f hb H
            refine w_skip ?_
            exact ⟨hE.cut (.cons rfl (.cons rfl (.cons rfl (.cons rfl (.cons rfl Subs.nil))))),hR,H⟩
      · replace H:=M.ite_f hb H
        refine w_exit ?_
        refine Xu.same ?_
        refine hK_13 _ _ ?_
        refine w_seq (fun K hK_44=>?_)
        refine t_region ?_
        refine t_val (v:=.int .i64 x5_14) rfl rfl hE rfl (r_move hE rfl) (fun a hE=>?_)
        refine t_val (v:=.int .i64 x5_14) rfl rfl hE rfl (r_assign hE rfl) (fun a hE=>?_)
        refine t_nil ?_
        refine hK_44 _ _ ?_
        refine w_ret ?_
        exact hret _ _ _ x5_14 _ hE hR (res_run hE rfl (RV.tmp rfl RV.nil)) rfl H
    · skip
      refine w_seq (fun K hK_45=>?_)
      refine t_region ?_
      refine t_val (v:=.pointer x0) rfl rfl hE rfl (r_move hE rfl) (fun a hE=>?_)
      refine t_call hE hR cl_value_reader_here rfl (S_value_reader_here x0) (M.unbind H) (fun x29_46 a w ea hR H=>?_)
      have hE:=Env.put_some hE rfl ea; clear ea
      refine t_call hE hR cl_value_digit rfl (S_value_digit x29_46) (M.unbind H) (fun x30_47 a w ea hR H=>?_)
      have hE:=Env.put_some hE rfl ea; clear ea
      refine t_val (v:=.bool (!x30_47)) rfl rfl hE rfl (r_un hE rfl u_not) (fun a hE=>?_)
      refine t_val (v:=.bool (!x30_47)) rfl rfl hE rfl (r_move hE rfl) (fun a hE=>?_)
      refine t_grp (n:=(⟨76,[]⟩ : Frm)) (w0:=w0) 7 (fun x39_48 : Bool=>[(0,.pointer x0),(3,.int .i64 x11_4),(39,.bool x39_48)]) (M.unbind H) (fun Kr hKr H=>?_) ?_
      · rcases bool_em (!x30_47) with hb | hb
        · replace H:=M.ite_t hb H
          have hE:=hE.reb 32 (!x30_47) true hb rfl
          refine t_off rfl hE rfl rfl rfl (fun a ea=>?_)
          have hE:=Env.put_some hE rfl ea; clear ea
          refine t_off rfl hE rfl rfl rfl (fun a ea=>?_)
          have hE:=Env.put_some hE rfl ea; clear ea
          refine t_off' rfl hE rfl rfl (fun b hb=>by cases hb) (fun a ea=>?_)
          have hE:=Env.put_some hE rfl ea; clear ea
          refine t_off' rfl hE rfl rfl (fun b hb=>by cases hb) (fun a ea=>?_)
          have hE:=Env.put_some hE rfl ea; clear ea
          refine t_off' rfl hE rfl rfl (fun b hb=>by cases hb) (fun a ea=>?_)
          have hE:=Env.put_some hE rfl ea; clear ea
          refine t_off rfl hE rfl rfl rfl (fun a ea=>?_)
          have hE:=Env.put_some hE rfl ea; clear ea
          refine t_val rfl rfl hE rfl (r_pick_t hE rfl rfl) (fun a hE=>?_)
          refine t_nil ?_
          exact hKr _ _ _ (hE.cut (.cons rfl (.cons rfl (.cons rfl Subs.nil)))) hR H
        · replace H:=M.ite_f hb H
          have hE:=hE.reb 32 (!x30_47) false hb rfl
          refine t_on rfl hE rfl rfl rfl ?_
          refine t_val (v:=.bool (decide (x25_9 > x11_4))) rfl rfl hE rfl (r_move hE rfl) (fun a hE=>?_)
          refine t_on rfl hE rfl rfl rfl ?_
          refine t_val (v:=.bool (decide (x25_9 > x11_4))) rfl rfl hE rfl (r_move hE rfl) (fun a hE=>?_)
          refine t_grp (n:=(⟨76,[]⟩ : Frm)) (w0:=w0) 4 (fun x38_49 : Bool=>[(0,.pointer x0),(3,.int .i64 x11_4),(32,.bool false),(38,.bool x38_49)]) (M.unbind H) (fun Kr hKr H=>?_) ?_
          · rcases bool_em (decide (x25_9 > x11_4)) with hb | hb
            · replace H:=M.ite_t hb H
              have hE:=hE.reb 34 (decide (x25_9 > x11_4)) true hb rfl
              refine t_on rfl hE rfl rfl rfl ?_
              refine t_val (v:=.pointer x0) rfl rfl hE rfl (r_move hE rfl) (fun a hE=>?_)
              refine t_on rfl hE rfl rfl rfl ?_
              refine t_call hE hR cl_value_reader_here rfl (S_value_reader_here x0) (M.unbind H) (fun x36_50 a w ea hR H=>?_)
              have hE:=Env.put_some hE rfl ea; clear ea
              refine t_on rfl hE rfl rfl rfl ?_
              refine t_val (v:=.bool (x36_50 == 48)) rfl rfl hE rfl (r_bin hE rfl rfl g_int b_eql) (fun a hE=>?_)
              refine t_on rfl hE rfl rfl rfl ?_
              refine t_val rfl rfl hE rfl (r_pick_t hE rfl rfl) (fun a hE=>?_)
              refine t_nil ?_
              exact hKr _ _ _ (hE.cut (.cons rfl (.cons rfl (.cons rfl (.cons rfl Subs.nil))))) hR H
            · replace H:=M.ite_f hb H
              have hE:=hE.reb 34 (decide (x25_9 > x11_4)) false hb rfl
              refine t_off rfl hE rfl rfl rfl (fun a ea=>?_)
              have hE:=Env.put_some hE rfl ea; clear ea
              refine t_off rfl hE rfl rfl rfl (fun a ea=>?_)
              have hE:=Env.put_some hE rfl ea; clear ea
              refine t_off rfl hE rfl rfl rfl (fun a ea=>?_)
              have hE:=Env.put_some hE rfl ea; clear ea
              refine t_on rfl hE rfl rfl rfl ?_
              refine t_val rfl rfl hE rfl (r_pick_f hE rfl rfl) (fun a hE=>?_)
              refine t_nil ?_
              exact hKr _ _ _ (hE.cut (.cons rfl (.cons rfl (.cons rfl (.cons rfl Subs.nil))))) hR H
          · intro x38_49 a w hE hR H
            refine t_val rfl rfl hE rfl (r_pick_f hE rfl rfl) (fun a hE=>?_)
            refine t_nil ?_
            exact hKr _ _ _ (hE.cut (.cons rfl (.cons rfl (.cons rfl Subs.nil)))) hR H
      · intro x39_48 a w hE hR H
        refine t_nil ?_
        refine hK_45 _ _ ?_
        refine w_cond x39_48 hE rfl (fun hb=>?_) (fun hb=>?_)
        · replace H:=M.ite_t hb H
          refine t_region ?_
          refine t_val (v:=.pointer x0) rfl rfl hE rfl (r_move hE rfl) (fun a hE=>?_)
          refine t_callX hE hR cl_value_reader_fail rfl (S_value_reader_fail x0) H (fun _ _ hR HQ=>hthr _ _ hR HQ) (fun x41_51 a w ea hR H=>?_)
          have hE:=Env.put_some hE rfl ea; clear ea
          refine t_nil ?_
          exact ⟨hE.cut (.cons rfl (.cons rfl Subs.nil)),hR,H⟩
        · replace H:=M.ite_f hb H
          refine w_skip ?_
          exact ⟨hE.cut (.cons rfl (.cons rfl Subs.nil)),hR,H⟩
  · skip
    refine w_seq (fun K hK_52=>?_)
    refine t_region ?_
    refine t_val (v:=.pointer x0) rfl rfl hE rfl (r_move hE rfl) (fun a hE=>?_)
    refine t_call hE hR cl_value_reader_here rfl (S_value_reader_here x0) (M.unbind H) (fun x13_53 a w ea hR H=>?_)
    have hE:=Env.put_some hE rfl ea; clear ea
    refine t_val (v:=.bool (x13_53 == 45)) rfl rfl hE rfl (r_bin hE rfl rfl g_int b_eql) (fun a hE=>?_)
    refine t_nil ?_
    refine hK_52 _ _ ?_
    refine w_cond (x13_53 == 45) hE rfl (fun hb=>?_) (fun hb=>?_)
    · replace H:=M.ite_t hb H
      refine t_region ?_
      refine t_val (v:=.pointer x0) rfl rfl hE rfl (r_move hE rfl) (fun a hE=>?_)
      obtain ⟨x16_54,qx16_54,H⟩:=H
      refine t_val (v:=.pointer (some x16_54)) rfl rfl hE rfl (r_nilCheck hE (hx_eq rfl (congrArg Value.pointer qx16_54))) (fun a hE=>?_)
      refine t_val (v:=.pointer (some ((x16_54).add 1))) rfl rfl hE rfl (r_fieldAddr hE rfl fd146_1) (fun a hE=>?_)
      obtain ⟨x18_55,qx18_55,H⟩:=H
      refine t_val (v:=.int .i64 x18_55) rfl rfl hE rfl (r_load hE rfl sc3 qx18_55) (fun a hE=>?_)
      refine t_val (v:=.int .i64 (IntKind.wrap .i64 (x18_55 + 1))) rfl rfl hE rfl (r_bin hE rfl rfl g_int b_add) (fun a hE=>?_)
      obtain ⟨x20_56,qx20_56,H⟩:=H
      refine t_val (v:=.pointer (some x20_56)) rfl rfl hE rfl (r_nilCheck hE (hx_eq rfl (congrArg Value.pointer qx20_56))) (fun a hE=>?_)
      refine t_val (v:=.pointer (some ((x20_56).add 1))) rfl rfl hE rfl (r_fieldAddr hE rfl fd146_1) (fun a hE=>?_)
      obtain ⟨u_57,qu_57,H⟩:=H
      refine t_sth rfl rfl hE hR (r_store hE rfl rfl sz3 qu_57) (fun a w hE hR hh=>?_)
      replace H:=M.at hh H; clear hh
      refine t_nil ?_
      exact ⟨hE.cut (.cons rfl (.cons rfl Subs.nil)),hR,H⟩
    · replace H:=M.ite_f hb H
      refine w_skip ?_
      exact ⟨hE.cut (.cons rfl (.cons rfl Subs.nil)),hR,H⟩

def value_reader_must_j1 (self1 : (Int) → M (Value ⊕ (Unit))) (c0_11 : Option Addr) (c7_14 : Int) : M (Value ⊕ (Unit)):=do
  let x38_15 ← nilP c0_11
  let x40_16 ← ldI .i64 ((x38_15).add 1)
  let x42_17 ← nilP c0_11
  stV ((x42_17).add 1) (.int .i64 (IntKind.wrap .i64 (x40_16 + 1)))
  self1 (IntKind.wrap .i64 (c7_14 + 1))
def value_reader_must_j2 (self1 : (Int) → M (Value ⊕ (Unit))) (c0_20 : Option Addr) (c7_23 : Int) (x34_19 : Bool) : M (Value ⊕ (Unit)):=do
  M.ite x34_19 (do
    thr (value_reader_fail c0_20) fun x36_24=>do
      value_reader_must_j1 self1 c0_20 c7_23
    ) (do
    value_reader_must_j1 self1 c0_20 c7_23
    )
noncomputable def ro174_3 : Array Oper:=opsOf Go.Proofs.Tryz.f174 3
def tE174_3 : List (List Nat):=[[],[0],[1],[2],[],[4],[5],[6],[7],[3,8],[9],[10],[11,10],[12,10],[13,10],[10],[15,10],[16,10],[17,10],[14,18,10],[10],[10],[20,21,10],[19,22,10],[10,23]]
def tC174_3 : List (List Nat):=[[],[0],[1],[2],[],[4],[5],[6],[7],[3,8],[9],[10],[10,11],[10,12],[10,13],[10],[10,15],[10,16],[10,17],[10,14,18],[10],[10],[10,20,21],[10,19,22],[10,23]]
def tW174_3 : List (List Nat):=[[],[0],[0,1],[0,1,2],[],[4],[4,5],[4,5,6],[4,5,6,7],[0,1,2,3,4,5,6,7,8],[0,1,2,3,4,5,6,7,8,9],[0,1,2,3,4,5,6,7,8,9,10],[0,1,2,3,4,5,6,7,8,9,10,11],[0,1,2,3,4,5,6,7,8,9,10,11,12],[0,1,2,3,4,5,6,7,8,9,10,11,12,13],[0,1,2,3,4,5,6,7,8,9,10],[0,1,2,3,4,5,6,7,8,9,10,15],[0,1,2,3,4,5,6,7,8,9,10,15,16],[0,1,2,3,4,5,6,7,8,9,10,15,16,17],[0,1,2,3,4,5,6,7,8,9,10,11,12,13,14,15,16,17,18],[0,1,2,3,4,5,6,7,8,9,10],[0,1,2,3,4,5,6,7,8,9,10],[0,1,2,3,4,5,6,7,8,9,10,20,21],[0,1,2,3,4,5,6,7,8,9,10,11,12,13,14,15,16,17,18,19,20,21,22],[0,1,2,3,4,5,6,7,8,9,10,11,12,13,14,15,16,17,18,19,20,21,22,23]]
theorem tb174_3 : tabAt Go.Proofs.Tryz.f174 3 tE174_3 tC174_3 tW174_3 = true:=by kernel_rfl
theorem tb174_3m : tabMB 25 tE174_3 tC174_3 tW174_3 [0,1,2,4,0,16,32,64,128,264,512,1024,3072,5120,9216,1024,33792,66560,132096,279552,1024,1024,3146752,4719616,8389632] [0,1,2,4,0,16,32,64,128,264,512,1024,3072,5120,9216,1024,33792,66560,132096,279552,1024,1024,3146752,4719616,8389632] [0,1,3,7,0,16,48,112,240,511,1023,2047,4095,8191,16383,2047,34815,100351,231423,524287,2047,2047,3147775,8388607,16777215] = true:=by kernel_rfl
def value_reader_must_l1 (c0_3 : Option Addr) (c1_4 : ByteArray) (c6_5 : Int) (self1 : (Int) → M (Value ⊕ (Unit))) : (Int) → M (Value ⊕ (Unit)):=fun s=>match s with
  | x7_2=>do
    M.ite (decide (x7_2 < c6_5)) (do
      let x11_25 ← nilP c0_3
      let x15_26 ← nilP c0_3
      let x13_27 ← ldI .i64 ((x11_25).add 1)
      let x17_28 ← ldS ((x15_26).add 0)
      M.ite (decide (x13_27 ≥ (x17_28.size : Int))) (do
        value_reader_must_j2 self1 c0_3 x7_2 true
        ) (do
        let x22_30 ← nilP c0_3
        let x26_31 ← nilP c0_3
        let x32_32 ← ixS c1_4 x7_2
        let x24_33 ← ldS ((x22_30).add 0)
        let x28_34 ← ldI .i64 ((x26_31).add 1)
        let x29_35 ← ixS x24_33 x28_34
        value_reader_must_j2 self1 c0_3 x7_2 (x29_35 != x32_32)
        )
      ) (do
      M.pure (.inr ())
      )
def value_reader_must (x0 : Option Addr) (x1 : ByteArray) : M (Value ⊕ (Unit)):=do
  M.loop (value_reader_must_l1 x0 x1 (x1.size : Int)) 0
theorem S_value_reader_must (x0 : Option Addr) (x1 : ByteArray) : SoundX Go.Proofs.Tryz.prog 174 #[.pointer x0,.string x1] (fun (r : Unit)=>.tuple #[]) (value_reader_must x0 x1):=by
  refine sound_ofX [(0,.pointer x0),(1,.string x1)] Go.Proofs.Tryz.func174 rfl rfl (Nat.le_of_ble_eq_true rfl) (args_of ⟨rfl,rfl,trivial⟩) (fun w0 w Q R X a hret hthr hE hR H=>?_)
  unfold value_reader_must at H
  refine w_seq (fun K hK_1=>?_)
  refine t_region ?_
  refine t_val (v:=.string x1) rfl rfl hE rfl (r_move hE rfl) (fun a hE=>?_)
  refine t_val (v:=.int .i64 (x1.size : Int)) rfl rfl hE rfl (r_lenS hE rfl un9) (fun a hE=>?_)
  refine t_val (v:=.int .i64 0) rfl rfl hE rfl (r_move hE rfl) (fun a hE=>?_)
  refine t_nil ?_
  refine hK_1 _ _ ?_
  refine w_block ?_
  refine l_loop (fun (s : Int)=>(⟨45,[]⟩ : Frm)) (fun (s : Int)=>[(0,.pointer x0),(1,.string x1),(6,.int .i64 (x1.size : Int)),(7,.int .i64 s)]) H (hE.cut (.cons rfl (.cons rfl (.cons rfl (.cons rfl Subs.nil))))) hR (fun Y self1 hY_6 x7_2 a w hE hR H=>?_)
  replace hE : Env (⟨45,[]⟩ : Frm) a [(0,.pointer x0),(1,.string x1),(6,.int .i64 (x1.size : Int)),(7,.int .i64 x7_2)]:=hE
  replace H : (value_reader_must_l1 x0 x1 (x1.size : Int) self1 x7_2).wp w.heap Q:=H
  unfold value_reader_must_l1 at H
  refine w_seq (fun K hK_7=>?_)
  refine t_region ?_
  refine t_val (v:=.bool (decide (x7_2 < (x1.size : Int)))) rfl rfl hE rfl (r_bin hE rfl rfl g_int b_lss) (fun a hE=>?_)
  refine t_nil ?_
  refine hK_7 _ _ ?_
  refine w_seq (fun K hK_8=>?_)
  refine w_cond (decide (x7_2 < (x1.size : Int))) hE rfl (fun hb=>?_) (fun hb=>?_)
  · replace H:=M.ite_t hb H
    refine w_skip ?_
    refine hK_8 _ _ ?_
    refine w_seq (fun K hK_9=>?_)
    refine w_block ?_
    refine w_seq (fun K hK_10=>?_)
    refine t_region ?_
    refine t_val (v:=.int .i64 x7_2) rfl rfl hE rfl (r_move hE rfl) (fun a hE=>?_)
    refine t_val (v:=.int .i64 x7_2) rfl rfl hE rfl (r_assign hE rfl) (fun a hE=>?_)
    refine t_nil ?_
    refine hK_10 _ _ ?_
    refine w_seq_join (fun a w=>Env (⟨45,[]⟩ : Frm) a [(0,.pointer x0),(1,.string x1),(6,.int .i64 (x1.size : Int)),(7,.int .i64 x7_2)] ∧ Rest w0 w ∧ (value_reader_must_j1 self1 x0 x7_2).wp w.heap Q) ?_ ?_
    · rintro a w ⟨hE,hR,H⟩
      unfold value_reader_must_j1 at H
      refine t_region ?_
      refine t_val (v:=.pointer x0) rfl rfl hE rfl (r_move hE rfl) (fun a hE=>?_)
      obtain ⟨x38_15,qx38_15,H⟩:=H
      refine t_val (v:=.pointer (some x38_15)) rfl rfl hE rfl (r_nilCheck hE (hx_eq rfl (congrArg Value.pointer qx38_15))) (fun a hE=>?_)
      refine t_val (v:=.pointer (some ((x38_15).add 1))) rfl rfl hE rfl (r_fieldAddr hE rfl fd146_1) (fun a hE=>?_)
      obtain ⟨x40_16,qx40_16,H⟩:=H
      refine t_val (v:=.int .i64 x40_16) rfl rfl hE rfl (r_load hE rfl sc3 qx40_16) (fun a hE=>?_)
      refine t_val (v:=.int .i64 (IntKind.wrap .i64 (x40_16 + 1))) rfl rfl hE rfl (r_bin hE rfl rfl g_int b_add) (fun a hE=>?_)
      obtain ⟨x42_17,qx42_17,H⟩:=H
      refine t_val (v:=.pointer (some x42_17)) rfl rfl hE rfl (r_nilCheck hE (hx_eq rfl (congrArg Value.pointer qx42_17))) (fun a hE=>?_)
      refine t_val (v:=.pointer (some ((x42_17).add 1))) rfl rfl hE rfl (r_fieldAddr hE rfl fd146_1) (fun a hE=>?_)
      obtain ⟨u_18,qu_18,H⟩:=H
      refine t_sth rfl rfl hE hR (r_store hE rfl rfl sz3 qu_18) (fun a w hE hR hh=>?_)
      replace H:=M.at hh H; clear hh
      refine t_nil ?_
      refine hK_9 _ _ ?_
      refine t_region ?_
      refine t_val (v:=.int .i64 (IntKind.wrap .i64 (x7_2 + 1))) rfl rfl hE rfl (r_bin hE rfl rfl g_int b_add) (fun a hE=>?_)
      refine t_val (v:=.int .i64 (IntKind.wrap .i64 (x7_2 + 1))) rfl rfl hE rfl (r_move hE rfl) (fun a hE=>?_)
      refine t_nil ?_
      exact hY_6 (IntKind.wrap .i64 (x7_2 + 1)) _ _ (hE.cut (.cons rfl (.cons rfl (.cons rfl (.cons rfl Subs.nil))))) hR H
    · skip
      refine w_seq_join (fun a w=>∃ (x34_19 : Bool),Env (⟨45,[]⟩ : Frm) a [(0,.pointer x0),(1,.string x1),(6,.int .i64 (x1.size : Int)),(7,.int .i64 x7_2),(34,.bool x34_19)] ∧ Rest w0 w ∧ (value_reader_must_j2 self1 x0 x7_2 x34_19).wp w.heap Q) ?_ ?_
      · rintro a w ⟨x34_19,hE,hR,H⟩
        unfold value_reader_must_j2 at H
        refine w_cond x34_19 hE rfl (fun hb=>?_) (fun hb=>?_)
        · replace H:=M.ite_t hb H
          refine t_region ?_
          refine t_val (v:=.pointer x0) rfl rfl hE rfl (r_move hE rfl) (fun a hE=>?_)
          refine t_callX hE hR cl_value_reader_fail rfl (S_value_reader_fail x0) H (fun _ _ hR HQ=>Xu.ne rfl (Xu.ne rfl (hthr _ _ hR HQ))) (fun x36_24 a w ea hR H=>?_)
          have hE:=Env.put_some hE rfl ea; clear ea
          refine t_nil ?_
          exact ⟨hE.cut (.cons rfl (.cons rfl (.cons rfl (.cons rfl Subs.nil)))),hR,H⟩
        · replace H:=M.ite_f hb H
          refine w_skip ?_
          exact ⟨hE.cut (.cons rfl (.cons rfl (.cons rfl (.cons rfl Subs.nil)))),hR,H⟩
      · skip
        obtain ⟨x11_25,qx11_25,H⟩:=H
        obtain ⟨x15_26,qx15_26,H⟩:=H
        obtain ⟨x13_27,qx13_27,H⟩:=H
        obtain ⟨x17_28,qx17_28,H⟩:=H
        rcases bool_em (decide (x13_27 ≥ (x17_28.size : Int))) with hb_29 | hb_29
        · replace H:=M.ite_t hb_29 H
          refine reg_eq (rops:=ro174_3) (by kernel_rfl) ?_
          have hT : Tab ro174_3 _ _ _:=tab_of tb174_3 rfl (by kernel_rfl)
          have hM:=TabM.of tb174_3m
          refine d_start (m:=25) (fun w : World=>(fun h : Heap=>(hcell h ((x11_25).add 1) = some (.int .i64 x13_27)) ∧ (hcell h ((x15_26).add 0) = some (.string x17_28))) w.heap) [9,10,11,12,13,14,15,16,17,18,19,20,21,22,23,24] (unb 25 0) mo hR (by kernel_rfl) (by kernel_rfl) (fun w' e=>by rw [e]; exact ⟨qx13_27,qx17_28⟩) (fun w hh hR hs=>?_)
          replace H:=M.at hh H; clear hh
          refine d_pureg (i:=0) (v:=.pointer x0) (unb 25 1) rfl rfl hT (anyM hM (by kernel_rfl)) hE rfl (wanted_none rfl) (fun w=>r_move hE rfl) (fun a hE=>?_)
          refine d_pureg (i:=1) (v:=.pointer (some x11_25)) (unb 25 3) rfl rfl hT (anyM hM (by kernel_rfl)) hE rfl (wanted_none rfl) (fun w=>r_nilCheck hE (hx_eq rfl (congrArg Value.pointer qx11_25))) (fun a hE=>?_)
          refine d_pureg (i:=2) (v:=.pointer (some ((x11_25).add 1))) (unb 25 7) rfl rfl hT (anyM hM (by kernel_rfl)) hE rfl (wanted_none rfl) (fun w=>r_fieldAddr hE rfl fd146_1) (fun a hE=>?_)
          refine d_pureg (i:=4) (v:=.pointer x0) (unb 25 23) rfl rfl hT (anyM hM (by kernel_rfl)) hE rfl (wanted_none rfl) (fun w=>r_move hE rfl) (fun a hE=>?_)
          refine d_pureg (i:=5) (v:=.pointer (some x15_26)) (unb 25 55) rfl rfl hT (anyM hM (by kernel_rfl)) hE rfl (wanted_none rfl) (fun w=>r_nilCheck hE (hx_eq rfl (congrArg Value.pointer qx15_26))) (fun a hE=>?_)
          refine d_pureg (i:=6) (v:=.pointer (some ((x15_26).add 0))) (unb 25 119) rfl rfl hT (anyM hM (by kernel_rfl)) hE rfl (wanted_none rfl) (fun w=>r_fieldAddr hE rfl fd146_0) (fun a hE=>?_)
          refine d_read (i:=3) (v:=.int .i64 x13_27) (unb 25 127) rfl rfl hT (takeM hM (by kernel_rfl)) hE rfl (wanted_none rfl) hs (fun w s=>r_load hE rfl sc3 s.1) (fun a hE=>?_)
          refine d_read (i:=7) (v:=.string x17_28) (unb 25 255) rfl rfl hT (takeM hM (by kernel_rfl)) hE rfl (wanted_none rfl) hs (fun w s=>r_load hE rfl sc9 s.2) (fun a hE=>?_)
          refine d_pureg (i:=8) (v:=.int .i64 (x17_28.size : Int)) (unb 25 511) rfl rfl hT (anyM hM (by kernel_rfl)) hE rfl (wanted_none rfl) (fun w=>r_lenS hE rfl un9) (fun a hE=>?_)
          refine d_pureg (i:=9) (v:=.bool (decide (x13_27 ≥ (x17_28.size : Int)))) (unb 25 1023) rfl rfl hT (anyM hM (by kernel_rfl)) hE rfl (wanted_none rfl) (fun w=>r_bin hE rfl rfl g_int b_geq) (fun a hE=>?_)
          refine d_pureg (i:=10) (v:=.bool (decide (x13_27 ≥ (x17_28.size : Int)))) (unb 25 2047) rfl rfl hT (anyM hM (by kernel_rfl)) hE rfl (wanted_none rfl) (fun w=>r_move hE rfl) (fun a hE=>?_)
          have hE:=hE.reb 20 (decide (x13_27 ≥ (x17_28.size : Int))) true hb_29 rfl
          replace hE:=hE.cut (l':=[(0,.pointer x0),(1,.string x1),(6,.int .i64 (x1.size : Int)),(7,.int .i64 x7_2),(4,.int .i64 x7_2),(20,.bool true)]) (.cons rfl (.cons rfl (.cons rfl (.cons rfl (.cons rfl (.cons rfl Subs.nil))))))
          refine d_offsM' [(11,some 21),(12,some 22),(13,some 23),(14,some 24),(15,some 25),(16,some 26),(17,some 27),(18,some 28),(19,some 29),(20,some 30),(21,some 31),(22,some 32),(23,some 33)] 1 hT hM hE (by kernel_rfl) (m':=16777215) (by kernel_rfl) (fun a hE=>?_)
          refine d_pureg (i:=24) (v:=.bool true) (unb 25 33554431) rfl rfl hT (anyM hM (by kernel_rfl)) hE rfl (wanted_none rfl) (fun w=>r_pick_t hE rfl rfl) (fun a hE=>?_)
          refine d_done hT (doneM hM (by kernel_rfl)) ?_
          exact ⟨true,hE.cut (.cons rfl (.cons rfl (.cons rfl (.cons rfl (.cons rfl Subs.nil))))),hR,H⟩
        · replace H:=M.ite_f hb_29 H
          obtain ⟨x22_30,qx22_30,H⟩:=H
          obtain ⟨x26_31,qx26_31,H⟩:=H
          obtain ⟨x32_32,qx32_32,H⟩:=H
          obtain ⟨x24_33,qx24_33,H⟩:=H
          obtain ⟨x28_34,qx28_34,H⟩:=H
          obtain ⟨x29_35,qx29_35,H⟩:=H
          refine reg_eq (rops:=ro174_3) (by kernel_rfl) ?_
          have hT : Tab ro174_3 _ _ _:=tab_of tb174_3 rfl (by kernel_rfl)
          have hM:=TabM.of tb174_3m
          refine d_start (m:=25) (fun w : World=>(fun h : Heap=>(hcell h ((x11_25).add 1) = some (.int .i64 x13_27)) ∧ (hcell h ((x15_26).add 0) = some (.string x17_28)) ∧ (hcell h ((x22_30).add 0) = some (.string x24_33)) ∧ (hcell h ((x26_31).add 1) = some (.int .i64 x28_34))) w.heap) [19,23,24] (unb 25 0) mo hR (by kernel_rfl) (by kernel_rfl) (fun w' e=>by rw [e]; exact ⟨qx13_27,qx17_28,qx24_33,qx28_34⟩) (fun w hh hR hs=>?_)
          replace H:=M.at hh H; clear hh
          refine d_pureg (i:=0) (v:=.pointer x0) (unb 25 1) rfl rfl hT (anyM hM (by kernel_rfl)) hE rfl (wanted_none rfl) (fun w=>r_move hE rfl) (fun a hE=>?_)
          refine d_pureg (i:=1) (v:=.pointer (some x11_25)) (unb 25 3) rfl rfl hT (anyM hM (by kernel_rfl)) hE rfl (wanted_none rfl) (fun w=>r_nilCheck hE (hx_eq rfl (congrArg Value.pointer qx11_25))) (fun a hE=>?_)
          refine d_pureg (i:=2) (v:=.pointer (some ((x11_25).add 1))) (unb 25 7) rfl rfl hT (anyM hM (by kernel_rfl)) hE rfl (wanted_none rfl) (fun w=>r_fieldAddr hE rfl fd146_1) (fun a hE=>?_)
          refine d_pureg (i:=4) (v:=.pointer x0) (unb 25 23) rfl rfl hT (anyM hM (by kernel_rfl)) hE rfl (wanted_none rfl) (fun w=>r_move hE rfl) (fun a hE=>?_)
          refine d_pureg (i:=5) (v:=.pointer (some x15_26)) (unb 25 55) rfl rfl hT (anyM hM (by kernel_rfl)) hE rfl (wanted_none rfl) (fun w=>r_nilCheck hE (hx_eq rfl (congrArg Value.pointer qx15_26))) (fun a hE=>?_)
          refine d_pureg (i:=6) (v:=.pointer (some ((x15_26).add 0))) (unb 25 119) rfl rfl hT (anyM hM (by kernel_rfl)) hE rfl (wanted_none rfl) (fun w=>r_fieldAddr hE rfl fd146_0) (fun a hE=>?_)
          refine d_read (i:=3) (v:=.int .i64 x13_27) (unb 25 127) rfl rfl hT (takeM hM (by kernel_rfl)) hE rfl (wanted_none rfl) hs (fun w s=>r_load hE rfl sc3 s.1) (fun a hE=>?_)
          refine d_read (i:=7) (v:=.string x17_28) (unb 25 255) rfl rfl hT (takeM hM (by kernel_rfl)) hE rfl (wanted_none rfl) hs (fun w s=>r_load hE rfl sc9 s.2.1) (fun a hE=>?_)
          refine d_pureg (i:=8) (v:=.int .i64 (x17_28.size : Int)) (unb 25 511) rfl rfl hT (anyM hM (by kernel_rfl)) hE rfl (wanted_none rfl) (fun w=>r_lenS hE rfl un9) (fun a hE=>?_)
          refine d_pureg (i:=9) (v:=.bool (decide (x13_27 ≥ (x17_28.size : Int)))) (unb 25 1023) rfl rfl hT (anyM hM (by kernel_rfl)) hE rfl (wanted_none rfl) (fun w=>r_bin hE rfl rfl g_int b_geq) (fun a hE=>?_)
          refine d_pureg (i:=10) (v:=.bool (decide (x13_27 ≥ (x17_28.size : Int)))) (unb 25 2047) rfl rfl hT (anyM hM (by kernel_rfl)) hE rfl (wanted_none rfl) (fun w=>r_move hE rfl) (fun a hE=>?_)
          have hE:=hE.reb 20 (decide (x13_27 ≥ (x17_28.size : Int))) false hb_29 rfl
          replace hE:=hE.cut (l':=[(0,.pointer x0),(1,.string x1),(6,.int .i64 (x1.size : Int)),(7,.int .i64 x7_2),(4,.int .i64 x7_2),(20,.bool false)]) (.cons rfl (.cons rfl (.cons rfl (.cons rfl (.cons rfl (.cons rfl Subs.nil))))))
          refine d_pureg (i:=11) (v:=.pointer x0) (unb 25 4095) rfl rfl hT (anyM hM (by kernel_rfl)) hE rfl (wanted_of rfl hE rfl rfl rfl) (fun w=>r_move hE rfl) (fun a hE=>?_)
          refine d_pureg (i:=12) (v:=.pointer (some x22_30)) (unb 25 8191) rfl rfl hT (anyM hM (by kernel_rfl)) hE rfl (wanted_of rfl hE rfl rfl rfl) (fun w=>r_nilCheck hE (hx_eq rfl (congrArg Value.pointer qx22_30))) (fun a hE=>?_)
          refine d_pureg (i:=13) (v:=.pointer (some ((x22_30).add 0))) (unb 25 16383) rfl rfl hT (anyM hM (by kernel_rfl)) hE rfl (wanted_of rfl hE rfl rfl rfl) (fun w=>r_fieldAddr hE rfl fd146_0) (fun a hE=>?_)
          refine d_pureg (i:=15) (v:=.pointer x0) (unb 25 49151) rfl rfl hT (anyM hM (by kernel_rfl)) hE rfl (wanted_of rfl hE rfl rfl rfl) (fun w=>r_move hE rfl) (fun a hE=>?_)
          refine d_pureg (i:=16) (v:=.pointer (some x26_31)) (unb 25 114687) rfl rfl hT (anyM hM (by kernel_rfl)) hE rfl (wanted_of rfl hE rfl rfl rfl) (fun w=>r_nilCheck hE (hx_eq rfl (congrArg Value.pointer qx26_31))) (fun a hE=>?_)
          refine d_pureg (i:=17) (v:=.pointer (some ((x26_31).add 1))) (unb 25 245759) rfl rfl hT (anyM hM (by kernel_rfl)) hE rfl (wanted_of rfl hE rfl rfl rfl) (fun w=>r_fieldAddr hE rfl fd146_1) (fun a hE=>?_)
          refine d_pureg (i:=20) (v:=.string x1) (unb 25 1294335) rfl rfl hT (anyM hM (by kernel_rfl)) hE rfl (wanted_of rfl hE rfl rfl rfl) (fun w=>r_move hE rfl) (fun a hE=>?_)
          refine d_pureg (i:=21) (v:=.int .i64 x7_2) (unb 25 3391487) rfl rfl hT (anyM hM (by kernel_rfl)) hE rfl (wanted_of rfl hE rfl rfl rfl) (fun w=>r_move hE rfl) (fun a hE=>?_)
          refine d_pureg (i:=22) (v:=.int .u8 x32_32) (unb 25 7585791) rfl rfl hT (anyM hM (by kernel_rfl)) hE rfl (wanted_of rfl hE rfl rfl rfl) (fun w=>r_indexS hE rfl rfl un9 qx32_32) (fun a hE=>?_)
          refine d_read (i:=14) (v:=.string x24_33) (unb 25 7602175) rfl rfl hT (takeM hM (by kernel_rfl)) hE rfl (wanted_of rfl hE rfl rfl rfl) hs (fun w s=>r_load hE rfl sc9 s.2.2.1) (fun a hE=>?_)
          refine d_read (i:=18) (v:=.int .i64 x28_34) (unb 25 7864319) rfl rfl hT (takeM hM (by kernel_rfl)) hE rfl (wanted_of rfl hE rfl rfl rfl) hs (fun w s=>r_load hE rfl sc3 s.2.2.2) (fun a hE=>?_)
          refine d_pureg (i:=19) (v:=.int .u8 x29_35) (unb 25 8388607) rfl rfl hT (anyM hM (by kernel_rfl)) hE rfl (wanted_of rfl hE rfl rfl rfl) (fun w=>r_indexS hE rfl rfl un9 qx29_35) (fun a hE=>?_)
          refine d_pureg (i:=23) (v:=.bool (x29_35 != x32_32)) (unb 25 16777215) rfl rfl hT (anyM hM (by kernel_rfl)) hE rfl (wanted_of rfl hE rfl rfl rfl) (fun w=>r_bin hE rfl rfl g_int b_neq) (fun a hE=>?_)
          refine d_pureg (i:=24) (v:=.bool (x29_35 != x32_32)) (unb 25 33554431) rfl rfl hT (anyM hM (by kernel_rfl)) hE rfl (wanted_none rfl) (fun w=>r_pick_f hE rfl rfl) (fun a hE=>?_)
          refine d_done hT (doneM hM (by kernel_rfl)) ?_
          exact ⟨x29_35 != x32_32,hE.cut (.cons rfl (.cons rfl (.cons rfl (.cons rfl (.cons rfl Subs.nil))))),hR,H⟩
  · replace H:=M.ite_f hb H
    refine w_exit ?_
    refine Xu.same ?_
    exact hret _ _ _ () _ hE hR (res_run hE rfl RV.nil) rfl H

def strings_IndexByte (x0 : ByteArray) (x1 : Int) : M (Int):=do
  let x7_3 ← internal_stringslite_IndexByte x0 x1
  M.pure x7_3
theorem S_strings_IndexByte (x0 : ByteArray) (x1 : Int) : Sound Go.Proofs.Tryz.prog 242 #[.string x0,.int .u8 x1] (fun (r : Int)=>.int .i64 r) (strings_IndexByte x0 x1):=by
  refine sound_of [(0,.string x0),(1,.int .u8 x1)] Go.Proofs.Tryz.func242 rfl rfl (Nat.le_of_ble_eq_true rfl) (args_of ⟨rfl,rfl,trivial⟩) (fun w0 w Q R a hret hE hR H=>?_)
  unfold strings_IndexByte at H
  refine w_seq (fun K hK_1=>?_)
  refine t_region ?_
  refine t_val (v:=.int .i64 0) rfl rfl hE rfl (r_assign hE rfl) (fun a hE=>?_)
  refine t_nil ?_
  refine hK_1 _ _ ?_
  refine w_seq (fun K hK_2=>?_)
  refine t_region ?_
  refine t_val (v:=.string x0) rfl rfl hE rfl (r_move hE rfl) (fun a hE=>?_)
  refine t_val (v:=.int .u8 x1) rfl rfl hE rfl (r_move hE rfl) (fun a hE=>?_)
  refine t_call hE hR cl_internal_stringslite_IndexByte rfl (S_internal_stringslite_IndexByte x0 x1) (M.unbind H) (fun x7_3 a w ea hR H=>?_)
  have hE:=Env.put_some hE rfl ea; clear ea
  refine t_val (v:=.int .i64 x7_3) rfl rfl hE rfl (r_assign hE rfl) (fun a hE=>?_)
  refine t_nil ?_
  refine hK_2 _ _ ?_
  refine w_ret ?_
  exact hret _ _ _ x7_3 _ hE hR (res_run hE rfl (RV.tmp rfl RV.nil)) rfl H

end Gx
