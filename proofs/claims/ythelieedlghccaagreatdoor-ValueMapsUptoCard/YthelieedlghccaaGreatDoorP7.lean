/- Printed by program: Go functions as Lean programs, each tied to its code. No condition. -/
import Derived.Test.YthelieedlghccaaGreatDoorP0
import Derived.Test.YthelieedlghccaaGreatDoorP1
import Derived.Test.YthelieedlghccaaGreatDoorP2
import Derived.Test.YthelieedlghccaaGreatDoorP3
import Derived.Test.YthelieedlghccaaGreatDoorP4
import Derived.Test.YthelieedlghccaaGreatDoorP5
import Derived.Test.YthelieedlghccaaGreatDoorP6
set_option linter.unusedVariables false
set_option linter.unusedSimpArgs false
namespace Gx
open Go
set_option linter.unusedVariables false
set_option maxRecDepth 100000
def internal_strconv_formatBits_j3 (c0_26 : Sl) (c4_27 : Bool) (c10_28 : Sl) (c11_29 : ByteArray) (c12_30 : Addr) (x13_25 : Int) : M (Sl × ByteArray):=do
  M.ite c4_27 (do
    let x97_34 ← slA c12_30 65 x13_25 65 1
    let x98_35 ← apL ty_uint8 1 1 (#[.int .u8 0] : Array Value) c0_26 x97_34
    M.pure (x98_35,c11_29)
    ) (do
    let x100_37 ← slA c12_30 65 x13_25 65 1
    let x101_38 ← b2s x100_37
    M.pure (c10_28,x101_38)
    )
def internal_strconv_formatBits_j2 (c0_19 : Sl) (c3_20 : Bool) (c4_21 : Bool) (c10_22 : Sl) (c11_23 : ByteArray) (c12_24 : Addr) (x13_18 : Int) : M (Sl × ByteArray):=do
  M.ite c3_20 (do
    let x93_41 ← ixA c12_24 65 (IntKind.wrap .i64 (x13_18 - 1)) 1
    stV x93_41 (.int .u8 45)
    internal_strconv_formatBits_j3 c0_19 c4_21 c10_22 c11_23 c12_24 (IntKind.wrap .i64 (x13_18 - 1))
    ) (do
    internal_strconv_formatBits_j3 c0_19 c4_21 c10_22 c11_23 c12_24 x13_18
    )
def internal_strconv_formatBits_l1 (c0_52 : Sl) (c3_53 : Bool) (c4_54 : Bool) (c10_55 : Sl) (c11_56 : ByteArray) (c12_57 : Addr) (c14_58 : Int) (c15_59 : Int) (c16_60 : Int) (self1 : (Int × Int) → M (Sl × ByteArray)) : (Int × Int) → M (Sl × ByteArray):=fun s=>match s with
  | (x1_50,x13_51)=>do
    M.ite (decide (x1_50 ≥ c15_59)) (do
      let x53_66 ← ixS (⟨#[48,49,50,51,52,53,54,55,56,57,97,98,99,100,101,102,103,104,105,106,107,108,109,110,111,112,113,114,115,116,117,118,119,120,121,122]⟩ : ByteArray) (iAnd .u64 x1_50 c16_60)
      let x54_67 ← ixA c12_57 65 (IntKind.wrap .i64 (x13_51 - 1)) 1
      stV x54_67 (.int .u8 x53_66)
      let x57_69 ← pShr .u64 x1_50 c14_58
      self1 (x57_69,IntKind.wrap .i64 (x13_51 - 1))
      ) (do
      let x62_71 ← ixS (⟨#[48,49,50,51,52,53,54,55,56,57,97,98,99,100,101,102,103,104,105,106,107,108,109,110,111,112,113,114,115,116,117,118,119,120,121,122]⟩ : ByteArray) x1_50
      let x63_72 ← ixA c12_57 65 (IntKind.wrap .i64 (x13_51 - 1)) 1
      stV x63_72 (.int .u8 x62_71)
      internal_strconv_formatBits_j2 c0_52 c3_53 c4_54 c10_55 c11_56 c12_57 (IntKind.wrap .i64 (x13_51 - 1))
      )
def internal_strconv_formatBits_l2 (c0_78 : Sl) (c3_79 : Bool) (c4_80 : Bool) (c10_81 : Sl) (c11_82 : ByteArray) (c12_83 : Addr) (c17_84 : Int) (self2 : (Int × Int) → M (Sl × ByteArray)) : (Int × Int) → M (Sl × ByteArray):=fun s=>match s with
  | (x1_76,x13_77)=>do
    M.ite (decide (x1_76 ≥ c17_84)) (do
      let x73_90 ← pQuo .u64 x1_76 c17_84
      let x80_92 ← ixS (⟨#[48,49,50,51,52,53,54,55,56,57,97,98,99,100,101,102,103,104,105,106,107,108,109,110,111,112,113,114,115,116,117,118,119,120,121,122]⟩ : ByteArray) (IntKind.wrap .u64 (x1_76 - (IntKind.wrap .u64 (x73_90 * c17_84))))
      let x81_93 ← ixA c12_83 65 (IntKind.wrap .i64 (x13_77 - 1)) 1
      stV x81_93 (.int .u8 x80_92)
      self2 (x73_90,IntKind.wrap .i64 (x13_77 - 1))
      ) (do
      let x87_96 ← ixS (⟨#[48,49,50,51,52,53,54,55,56,57,97,98,99,100,101,102,103,104,105,106,107,108,109,110,111,112,113,114,115,116,117,118,119,120,121,122]⟩ : ByteArray) x1_76
      let x88_97 ← ixA c12_83 65 (IntKind.wrap .i64 (x13_77 - 1)) 1
      stV x88_97 (.int .u8 x87_96)
      internal_strconv_formatBits_j2 c0_78 c3_79 c4_80 c10_81 c11_82 c12_83 (IntKind.wrap .i64 (x13_77 - 1))
      )
def internal_strconv_formatBits_j1 (c0_10 : Sl) (c2_11 : Int) (c3_12 : Bool) (c4_13 : Bool) (c10_14 : Sl) (c11_15 : ByteArray) (c12_16 : Addr) (c13_17 : Int) (x1_9 : Int) : M (Sl × ByteArray):=do
  let x34_44 ← internal_strconv_isPowerOfTwo c2_11
  M.ite x34_44 (do
    let x37_46 ← math_bits_TrailingZeros (IntKind.wrap .u64 c2_11)
    M.loop (internal_strconv_formatBits_l1 c0_10 c3_12 c4_13 c10_14 c11_15 c12_16 (IntKind.wrap .u64 x37_46) (IntKind.wrap .u64 c2_11) (IntKind.wrap .u64 ((IntKind.wrap .u64 c2_11) - 1))) (x1_9,c13_17)
    ) (do
    M.loop (internal_strconv_formatBits_l2 c0_10 c3_12 c4_13 c10_14 c11_15 c12_16 (IntKind.wrap .u64 c2_11)) (x1_9,c13_17)
    )
def internal_strconv_formatBits (x0 : Sl) (x1 : Int) (x2 : Int) (x3 : Bool) (x4 : Bool) : M (Sl × ByteArray):=do
  let x24_4 ← M.ite (decide (x2 < 2)) (do
    M.pure true
    ) (do
    M.pure (x2 == 10)
    )
  let x28_5 ← M.ite x24_4 (do
    M.pure true
    ) (do
    M.pure (decide (x2 > 36))
    )
  M.ite x28_5 (do
    M.fail
    ) (do
    let x12_7 ← mkB ty_65_uint8 (Array.replicate 65 (.int .u8 0) : Array Value)
    M.ite x3 (do
      internal_strconv_formatBits_j1 x0 x2 x3 x4 Sl.nil ByteArray.empty x12_7 65 (IntKind.wrap .u64 (0 - x1))
      ) (do
      internal_strconv_formatBits_j1 x0 x2 x3 x4 Sl.nil ByteArray.empty x12_7 65 x1
      )
    )
theorem S_internal_strconv_formatBits (x0 : Sl) (x1 : Int) (x2 : Int) (x3 : Bool) (x4 : Bool) : Sound Go.Proofs.Tryz.prog 230 #[(x0 : Sl).v,.int .u64 x1,.int .i64 x2,.bool x3,.bool x4] (fun (r : Sl × ByteArray)=>.tuple #[(r.1 : Sl).v,.string r.2]) (internal_strconv_formatBits x0 x1 x2 x3 x4):=by
  refine sound_of [(0,(x0 : Sl).v),(1,.int .u64 x1),(2,.int .i64 x2),(3,.bool x3),(4,.bool x4)] Go.Proofs.Tryz.func230 rfl rfl (Nat.le_of_ble_eq_true rfl) (args_of ⟨rfl,rfl,rfl,rfl,rfl,trivial⟩) (fun w0 w Q R a hret hE hR H=>?_)
  unfold internal_strconv_formatBits at H
  refine w_seq (fun K hK_1=>?_)
  refine t_region ?_
  refine t_val (v:=(Sl.nil : Sl).v) rfl rfl hE rfl (r_assign hE rfl) (fun a hE=>?_)
  refine t_val (v:=.string ByteArray.empty) rfl rfl hE rfl (r_assign hE rfl) (fun a hE=>?_)
  refine t_nil ?_
  refine hK_1 _ _ ?_
  refine w_seq (fun K hK_2=>?_)
  refine w_seq (fun K hK_3=>?_)
  refine t_region ?_
  refine t_val (v:=.int .i64 x2) rfl rfl hE rfl (r_move hE rfl) (fun a hE=>?_)
  refine t_val (v:=.bool (decide (x2 < 2))) rfl rfl hE rfl (r_bin hE rfl rfl g_int b_lss) (fun a hE=>?_)
  refine t_val (v:=.bool (decide (x2 < 2))) rfl rfl hE rfl (r_move hE rfl) (fun a hE=>?_)
  refine t_grp (n:=(⟨102,[]⟩ : Frm)) (w0:=w0) 3 (fun x24_4 : Bool=>[(0,(x0 : Sl).v),(1,.int .u64 x1),(2,.int .i64 x2),(3,.bool x3),(4,.bool x4),(10,(Sl.nil : Sl).v),(11,.string ByteArray.empty),(24,.bool x24_4)]) (M.unbind H) (fun Kr hKr H=>?_) ?_
  · rcases bool_em (decide (x2 < 2)) with hb | hb
    · replace H:=M.ite_t hb H
      have hE:=hE.reb 21 (decide (x2 < 2)) true hb rfl
      refine t_off rfl hE rfl rfl rfl (fun a ea=>?_)
      have hE:=Env.put_some hE rfl ea; clear ea
      refine t_off rfl hE rfl rfl rfl (fun a ea=>?_)
      have hE:=Env.put_some hE rfl ea; clear ea
      refine t_val rfl rfl hE rfl (r_pick_t hE rfl rfl) (fun a hE=>?_)
      refine t_nil ?_
      exact hKr _ _ _ (hE.cut (.cons rfl (.cons rfl (.cons rfl (.cons rfl (.cons rfl (.cons rfl (.cons rfl (.cons rfl Subs.nil))))))))) hR H
    · replace H:=M.ite_f hb H
      have hE:=hE.reb 21 (decide (x2 < 2)) false hb rfl
      refine t_on rfl hE rfl rfl rfl ?_
      refine t_val (v:=.int .i64 x2) rfl rfl hE rfl (r_move hE rfl) (fun a hE=>?_)
      refine t_on rfl hE rfl rfl rfl ?_
      refine t_val (v:=.bool (x2 == 10)) rfl rfl hE rfl (r_bin hE rfl rfl g_int b_eql) (fun a hE=>?_)
      refine t_val rfl rfl hE rfl (r_pick_f hE rfl rfl) (fun a hE=>?_)
      refine t_nil ?_
      exact hKr _ _ _ (hE.cut (.cons rfl (.cons rfl (.cons rfl (.cons rfl (.cons rfl (.cons rfl (.cons rfl (.cons rfl Subs.nil))))))))) hR H
  · intro x24_4 a w hE hR H
    refine t_val (v:=.bool x24_4) rfl rfl hE rfl (r_move hE rfl) (fun a hE=>?_)
    refine t_grp (n:=(⟨102,[]⟩ : Frm)) (w0:=w0) 3 (fun x28_5 : Bool=>[(0,(x0 : Sl).v),(1,.int .u64 x1),(2,.int .i64 x2),(3,.bool x3),(4,.bool x4),(10,(Sl.nil : Sl).v),(11,.string ByteArray.empty),(28,.bool x28_5)]) (M.unbind H) (fun Kr hKr H=>?_) ?_
    · rcases bool_em x24_4 with hb | hb
      · replace H:=M.ite_t hb H
        have hE:=hE.reb 25 x24_4 true hb rfl
        refine t_off rfl hE rfl rfl rfl (fun a ea=>?_)
        have hE:=Env.put_some hE rfl ea; clear ea
        refine t_off rfl hE rfl rfl rfl (fun a ea=>?_)
        have hE:=Env.put_some hE rfl ea; clear ea
        refine t_val rfl rfl hE rfl (r_pick_t hE rfl rfl) (fun a hE=>?_)
        refine t_nil ?_
        exact hKr _ _ _ (hE.cut (.cons rfl (.cons rfl (.cons rfl (.cons rfl (.cons rfl (.cons rfl (.cons rfl (.cons rfl Subs.nil))))))))) hR H
      · replace H:=M.ite_f hb H
        have hE:=hE.reb 25 x24_4 false hb rfl
        refine t_on rfl hE rfl rfl rfl ?_
        refine t_val (v:=.int .i64 x2) rfl rfl hE rfl (r_move hE rfl) (fun a hE=>?_)
        refine t_on rfl hE rfl rfl rfl ?_
        refine t_val (v:=.bool (decide (x2 > 36))) rfl rfl hE rfl (r_bin hE rfl rfl g_int b_gtr) (fun a hE=>?_)
        refine t_val rfl rfl hE rfl (r_pick_f hE rfl rfl) (fun a hE=>?_)
        refine t_nil ?_
        exact hKr _ _ _ (hE.cut (.cons rfl (.cons rfl (.cons rfl (.cons rfl (.cons rfl (.cons rfl (.cons rfl (.cons rfl Subs.nil))))))))) hR H
    · intro x28_5 a w hE hR H
      refine t_nil ?_
      refine hK_3 _ _ ?_
      refine w_cond x28_5 hE rfl (fun hb=>?_) (fun hb=>?_)
      · replace H:=M.ite_t hb H
        exact False.elim H
      · replace H:=M.ite_f hb H
        refine w_skip ?_
        refine hK_2 _ _ ?_
        refine w_seq (fun K hK_6=>?_)
        refine t_region ?_
        obtain ⟨x12_7,qx12_7,H⟩:=H
        refine t_valh (v:=.pointer (some x12_7)) rfl rfl hE rfl hR (r_alloc zr246 qx12_7) (fun a w hE hR hh=>?_)
        replace H:=M.at hh H; clear hh
        refine t_nil ?_
        refine hK_6 _ _ ?_
        refine w_seq (fun K hK_8=>?_)
        refine t_region ?_
        refine t_val (v:=.int .i64 65) rfl rfl hE rfl (r_assign hE rfl) (fun a hE=>?_)
        refine t_nil ?_
        refine hK_8 _ _ ?_
        refine w_seq_join (fun a w=>∃ (x1_9 : Int),Env (⟨102,[]⟩ : Frm) a [(0,(x0 : Sl).v),(2,.int .i64 x2),(3,.bool x3),(4,.bool x4),(10,(Sl.nil : Sl).v),(11,.string ByteArray.empty),(12,.pointer (some x12_7)),(13,.int .i64 65),(1,.int .u64 x1_9)] ∧ Rest w0 w ∧ (internal_strconv_formatBits_j1 x0 x2 x3 x4 Sl.nil ByteArray.empty x12_7 65 x1_9).wp w.heap Q) ?_ ?_
        · rintro a w ⟨x1_9,hE,hR,H⟩
          unfold internal_strconv_formatBits_j1 at H
          refine w_seq_join (fun a w=>∃ (x13_18 : Int),Env (⟨102,[]⟩ : Frm) a [(0,(x0 : Sl).v),(3,.bool x3),(4,.bool x4),(10,(Sl.nil : Sl).v),(11,.string ByteArray.empty),(12,.pointer (some x12_7)),(13,.int .i64 x13_18)] ∧ Rest w0 w ∧ (internal_strconv_formatBits_j2 x0 x3 x4 Sl.nil ByteArray.empty x12_7 x13_18).wp w.heap Q) ?_ ?_
          · rintro a w ⟨x13_18,hE,hR,H⟩
            unfold internal_strconv_formatBits_j2 at H
            refine w_seq_join (fun a w=>∃ (x13_25 : Int),Env (⟨102,[]⟩ : Frm) a [(0,(x0 : Sl).v),(4,.bool x4),(10,(Sl.nil : Sl).v),(11,.string ByteArray.empty),(12,.pointer (some x12_7)),(13,.int .i64 x13_25)] ∧ Rest w0 w ∧ (internal_strconv_formatBits_j3 x0 x4 Sl.nil ByteArray.empty x12_7 x13_25).wp w.heap Q) ?_ ?_
            · rintro a w ⟨x13_25,hE,hR,H⟩
              unfold internal_strconv_formatBits_j3 at H
              refine w_seq (fun K hK_31=>?_)
              refine w_seq (fun K hK_32=>?_)
              refine t_region ?_
              refine t_val (v:=.bool x4) rfl rfl hE rfl (r_move hE rfl) (fun a hE=>?_)
              refine t_nil ?_
              refine hK_32 _ _ ?_
              refine w_cond x4 hE rfl (fun hb=>?_) (fun hb=>?_)
              · replace H:=M.ite_t hb H
                refine w_seq (fun K hK_33=>?_)
                refine t_region ?_
                refine t_val (v:=(x0 : Sl).v) rfl rfl hE rfl (r_move hE rfl) (fun a hE=>?_)
                refine t_val (v:=.int .i64 x13_25) rfl rfl hE rfl (r_move hE rfl) (fun a hE=>?_)
                obtain ⟨x97_34,qx97_34,H⟩:=H
                refine t_val (v:=(x97_34 : Sl).v) rfl rfl hE rfl (r_sliceA_l hE rfl rfl un246 sz5 qx97_34) (fun a hE=>?_)
                refine t_ex (fun x98_35=>(x98_35 : Sl).v) rfl rfl hR (M.unbind H) (fun Q H=>ap_run hE rfl rfl ap35 H) (fun x98_35 a w ea hR H=>?_)
                have hE:=Env.put_some hE rfl ea; clear ea
                refine t_val (v:=(x98_35 : Sl).v) rfl rfl hE rfl (r_assign hE rfl) (fun a hE=>?_)
                refine t_nil ?_
                refine hK_33 _ _ ?_
                refine w_ret ?_
                exact hret _ _ _ (x98_35,ByteArray.empty) _ hE hR (res_run hE rfl (RV.tmp rfl (RV.tmp rfl RV.nil))) rfl H
              · replace H:=M.ite_f hb H
                refine w_skip ?_
                refine hK_31 _ _ ?_
                refine w_seq (fun K hK_36=>?_)
                refine t_region ?_
                refine t_val (v:=.int .i64 x13_25) rfl rfl hE rfl (r_move hE rfl) (fun a hE=>?_)
                obtain ⟨x100_37,qx100_37,H⟩:=H
                refine t_val (v:=(x100_37 : Sl).v) rfl rfl hE rfl (r_sliceA_l hE rfl rfl un246 sz5 qx100_37) (fun a hE=>?_)
                obtain ⟨x101_38,qx101_38,H⟩:=H
                refine t_val (v:=.string x101_38) rfl rfl hE rfl (b2s_run hE rfl un35 un9 un5 qx101_38) (fun a hE=>?_)
                refine t_val (v:=.string x101_38) rfl rfl hE rfl (r_assign hE rfl) (fun a hE=>?_)
                refine t_nil ?_
                refine hK_36 _ _ ?_
                refine w_ret ?_
                exact hret _ _ _ (Sl.nil,x101_38) _ hE hR (res_run hE rfl (RV.tmp rfl (RV.tmp rfl RV.nil))) rfl H
            · skip
              refine w_seq (fun K hK_39=>?_)
              refine t_region ?_
              refine t_val (v:=.bool x3) rfl rfl hE rfl (r_move hE rfl) (fun a hE=>?_)
              refine t_nil ?_
              refine hK_39 _ _ ?_
              refine w_cond x3 hE rfl (fun hb=>?_) (fun hb=>?_)
              · replace H:=M.ite_t hb H
                refine w_seq (fun K hK_40=>?_)
                refine t_region ?_
                refine t_val (v:=.int .i64 x13_18) rfl rfl hE rfl (r_move hE rfl) (fun a hE=>?_)
                refine t_val (v:=.int .i64 (IntKind.wrap .i64 (x13_18 - 1))) rfl rfl hE rfl (r_bin hE rfl rfl g_int b_sub) (fun a hE=>?_)
                refine t_val (v:=.int .i64 (IntKind.wrap .i64 (x13_18 - 1))) rfl rfl hE rfl (r_assign hE rfl) (fun a hE=>?_)
                refine t_nil ?_
                refine hK_40 _ _ ?_
                refine t_region ?_
                refine t_val (v:=.int .i64 (IntKind.wrap .i64 (x13_18 - 1))) rfl rfl hE rfl (r_move hE rfl) (fun a hE=>?_)
                obtain ⟨x93_41,qx93_41,H⟩:=H
                refine t_val (v:=.pointer (some x93_41)) rfl rfl hE rfl (r_indexAddrA hE rfl rfl un246 sz5 qx93_41) (fun a hE=>?_)
                obtain ⟨u_42,qu_42,H⟩:=H
                refine t_sth rfl rfl hE hR (r_store hE rfl rfl sz5 qu_42) (fun a w hE hR hh=>?_)
                replace H:=M.at hh H; clear hh
                refine t_nil ?_
                exact ⟨IntKind.wrap .i64 (x13_18 - 1),hE.cut (.cons rfl (.cons rfl (.cons rfl (.cons rfl (.cons rfl (.cons rfl Subs.nil)))))),hR,H⟩
              · replace H:=M.ite_f hb H
                refine w_skip ?_
                exact ⟨x13_18,hE.cut (.cons rfl (.cons rfl (.cons rfl (.cons rfl (.cons rfl (.cons rfl Subs.nil)))))),hR,H⟩
          · skip
            refine w_seq (fun K hK_43=>?_)
            refine t_region ?_
            refine t_val (v:=.int .i64 x2) rfl rfl hE rfl (r_move hE rfl) (fun a hE=>?_)
            refine t_call hE hR cl_internal_strconv_isPowerOfTwo rfl (S_internal_strconv_isPowerOfTwo x2) (M.unbind H) (fun x34_44 a w ea hR H=>?_)
            have hE:=Env.put_some hE rfl ea; clear ea
            refine t_nil ?_
            refine hK_43 _ _ ?_
            refine w_cond x34_44 hE rfl (fun hb=>?_) (fun hb=>?_)
            · replace H:=M.ite_t hb H
              refine w_seq (fun K hK_45=>?_)
              refine t_region ?_
              refine t_val (v:=.int .i64 x2) rfl rfl hE rfl (r_move hE rfl) (fun a hE=>?_)
              refine t_val (v:=.int .u64 (IntKind.wrap .u64 x2)) rfl rfl hE rfl (r_convI hE rfl un3 un184) (fun a hE=>?_)
              refine t_call hE hR cl_math_bits_TrailingZeros rfl (S_math_bits_TrailingZeros (IntKind.wrap .u64 x2)) (M.unbind H) (fun x37_46 a w ea hR H=>?_)
              have hE:=Env.put_some hE rfl ea; clear ea
              refine t_val (v:=.int .u64 (IntKind.wrap .u64 x37_46)) rfl rfl hE rfl (r_convI hE rfl un3 un184) (fun a hE=>?_)
              refine t_val (v:=.int .u64 (IntKind.wrap .u64 x37_46)) rfl rfl hE rfl (r_assign hE rfl) (fun a hE=>?_)
              refine t_nil ?_
              refine hK_45 _ _ ?_
              refine w_seq (fun K hK_47=>?_)
              refine t_region ?_
              refine t_val (v:=.int .i64 x2) rfl rfl hE rfl (r_move hE rfl) (fun a hE=>?_)
              refine t_val (v:=.int .u64 (IntKind.wrap .u64 x2)) rfl rfl hE rfl (r_convI hE rfl un3 un154) (fun a hE=>?_)
              refine t_val (v:=.int .u64 (IntKind.wrap .u64 x2)) rfl rfl hE rfl (r_assign hE rfl) (fun a hE=>?_)
              refine t_nil ?_
              refine hK_47 _ _ ?_
              refine w_seq (fun K hK_48=>?_)
              refine t_region ?_
              refine t_val (v:=.int .i64 x2) rfl rfl hE rfl (r_move hE rfl) (fun a hE=>?_)
              refine t_val (v:=.int .u64 (IntKind.wrap .u64 x2)) rfl rfl hE rfl (r_convI hE rfl un3 un184) (fun a hE=>?_)
              refine t_val (v:=.int .u64 (IntKind.wrap .u64 ((IntKind.wrap .u64 x2) - 1))) rfl rfl hE rfl (r_bin hE rfl rfl g_int b_sub) (fun a hE=>?_)
              refine t_val (v:=.int .u64 (IntKind.wrap .u64 ((IntKind.wrap .u64 x2) - 1))) rfl rfl hE rfl (r_assign hE rfl) (fun a hE=>?_)
              refine t_nil ?_
              refine hK_48 _ _ ?_
              refine w_seq (fun K hK_49=>?_)
              refine w_block ?_
              refine l_loop (fun (s : Int × Int)=>(⟨102,[]⟩ : Frm)) (fun (s : Int × Int)=>[(0,(x0 : Sl).v),(1,.int .u64 s.1),(3,.bool x3),(4,.bool x4),(10,(Sl.nil : Sl).v),(11,.string ByteArray.empty),(12,.pointer (some x12_7)),(13,.int .i64 s.2),(14,.int .u64 (IntKind.wrap .u64 x37_46)),(15,.int .u64 (IntKind.wrap .u64 x2)),(16,.int .u64 (IntKind.wrap .u64 ((IntKind.wrap .u64 x2) - 1)))]) H (hE.cut (.cons rfl (.cons rfl (.cons rfl (.cons rfl (.cons rfl (.cons rfl (.cons rfl (.cons rfl (.cons rfl (.cons rfl (.cons rfl Subs.nil)))))))))))) hR (fun Y self1 hY_61 s a w hE hR H=>?_)
              rcases s with ⟨x1_50,x13_51⟩
              replace hE : Env (⟨102,[]⟩ : Frm) a [(0,(x0 : Sl).v),(1,.int .u64 x1_50),(3,.bool x3),(4,.bool x4),(10,(Sl.nil : Sl).v),(11,.string ByteArray.empty),(12,.pointer (some x12_7)),(13,.int .i64 x13_51),(14,.int .u64 (IntKind.wrap .u64 x37_46)),(15,.int .u64 (IntKind.wrap .u64 x2)),(16,.int .u64 (IntKind.wrap .u64 ((IntKind.wrap .u64 x2) - 1)))]:=hE
              replace H : (internal_strconv_formatBits_l1 x0 x3 x4 Sl.nil ByteArray.empty x12_7 (IntKind.wrap .u64 x37_46) (IntKind.wrap .u64 x2) (IntKind.wrap .u64 ((IntKind.wrap .u64 x2) - 1)) self1 (x1_50,x13_51)).wp w.heap Q:=H
              unfold internal_strconv_formatBits_l1 at H
              refine w_seq (fun K hK_62=>?_)
              refine w_seq (fun K hK_63=>?_)
              refine t_region ?_
              refine t_val (v:=.int .u64 x1_50) rfl rfl hE rfl (r_move hE rfl) (fun a hE=>?_)
              refine t_val (v:=.int .u64 (IntKind.wrap .u64 x2)) rfl rfl hE rfl (r_move hE rfl) (fun a hE=>?_)
              refine t_val (v:=.bool (decide (x1_50 ≥ (IntKind.wrap .u64 x2)))) rfl rfl hE rfl (r_bin hE rfl rfl g_int b_geq) (fun a hE=>?_)
              refine t_nil ?_
              refine hK_63 _ _ ?_
              refine w_cond (decide (x1_50 ≥ (IntKind.wrap .u64 x2))) hE rfl (fun hb=>?_) (fun hb=>?_)
              · replace H:=M.ite_t hb H
                refine w_skip ?_
                refine hK_62 _ _ ?_
                refine w_block ?_
                refine w_seq (fun K hK_64=>?_)
                refine t_region ?_
                refine t_val (v:=.int .i64 x13_51) rfl rfl hE rfl (r_move hE rfl) (fun a hE=>?_)
                refine t_val (v:=.int .i64 (IntKind.wrap .i64 (x13_51 - 1))) rfl rfl hE rfl (r_bin hE rfl rfl g_int b_sub) (fun a hE=>?_)
                refine t_val (v:=.int .i64 (IntKind.wrap .i64 (x13_51 - 1))) rfl rfl hE rfl (r_assign hE rfl) (fun a hE=>?_)
                refine t_nil ?_
                refine hK_64 _ _ ?_
                refine w_seq (fun K hK_65=>?_)
                refine t_region ?_
                refine t_val (v:=.int .i64 (IntKind.wrap .i64 (x13_51 - 1))) rfl rfl hE rfl (r_move hE rfl) (fun a hE=>?_)
                refine t_val (v:=.int .u64 x1_50) rfl rfl hE rfl (r_move hE rfl) (fun a hE=>?_)
                refine t_val (v:=.int .u64 (IntKind.wrap .u64 ((IntKind.wrap .u64 x2) - 1))) rfl rfl hE rfl (r_move hE rfl) (fun a hE=>?_)
                refine t_val (v:=.int .u64 (iAnd .u64 x1_50 (IntKind.wrap .u64 ((IntKind.wrap .u64 x2) - 1)))) rfl rfl hE rfl (r_bin hE rfl rfl g_int b_and) (fun a hE=>?_)
                obtain ⟨x53_66,qx53_66,H⟩:=H
                refine t_val (v:=.int .u8 x53_66) rfl rfl hE rfl (r_indexS hE rfl rfl un9 qx53_66) (fun a hE=>?_)
                obtain ⟨x54_67,qx54_67,H⟩:=H
                refine t_val (v:=.pointer (some x54_67)) rfl rfl hE rfl (r_indexAddrA hE rfl rfl un246 sz5 qx54_67) (fun a hE=>?_)
                obtain ⟨u_68,qu_68,H⟩:=H
                refine t_sth rfl rfl hE hR (r_store hE rfl rfl sz5 qu_68) (fun a w hE hR hh=>?_)
                replace H:=M.at hh H; clear hh
                refine t_nil ?_
                refine hK_65 _ _ ?_
                refine t_region ?_
                refine t_val (v:=.int .u64 x1_50) rfl rfl hE rfl (r_move hE rfl) (fun a hE=>?_)
                refine t_val (v:=.int .u64 (IntKind.wrap .u64 x37_46)) rfl rfl hE rfl (r_move hE rfl) (fun a hE=>?_)
                obtain ⟨x57_69,qx57_69,H⟩:=H
                refine t_val (v:=.int .u64 x57_69) rfl rfl hE rfl (r_bin hE rfl rfl g_int (b_shr qx57_69)) (fun a hE=>?_)
                refine t_val (v:=.int .u64 x57_69) rfl rfl hE rfl (r_assign hE rfl) (fun a hE=>?_)
                refine t_nil ?_
                exact hY_61 (x57_69,IntKind.wrap .i64 (x13_51 - 1)) _ _ (hE.cut (.cons rfl (.cons rfl (.cons rfl (.cons rfl (.cons rfl (.cons rfl (.cons rfl (.cons rfl (.cons rfl (.cons rfl (.cons rfl Subs.nil)))))))))))) hR H
              · replace H:=M.ite_f hb H
                refine w_exit ?_
                refine Xu.same ?_
                refine hK_49 _ _ ?_
                refine w_seq (fun K hK_70=>?_)
                refine t_region ?_
                refine t_val (v:=.int .i64 x13_51) rfl rfl hE rfl (r_move hE rfl) (fun a hE=>?_)
                refine t_val (v:=.int .i64 (IntKind.wrap .i64 (x13_51 - 1))) rfl rfl hE rfl (r_bin hE rfl rfl g_int b_sub) (fun a hE=>?_)
                refine t_val (v:=.int .i64 (IntKind.wrap .i64 (x13_51 - 1))) rfl rfl hE rfl (r_assign hE rfl) (fun a hE=>?_)
                refine t_nil ?_
                refine hK_70 _ _ ?_
                refine t_region ?_
                refine t_val (v:=.int .i64 (IntKind.wrap .i64 (x13_51 - 1))) rfl rfl hE rfl (r_move hE rfl) (fun a hE=>?_)
                refine t_val (v:=.int .u64 x1_50) rfl rfl hE rfl (r_move hE rfl) (fun a hE=>?_)
                obtain ⟨x62_71,qx62_71,H⟩:=H
                refine t_val (v:=.int .u8 x62_71) rfl rfl hE rfl (r_indexS hE rfl rfl un9 qx62_71) (fun a hE=>?_)
                obtain ⟨x63_72,qx63_72,H⟩:=H
                refine t_val (v:=.pointer (some x63_72)) rfl rfl hE rfl (r_indexAddrA hE rfl rfl un246 sz5 qx63_72) (fun a hE=>?_)
                obtain ⟨u_73,qu_73,H⟩:=H
                refine t_sth rfl rfl hE hR (r_store hE rfl rfl sz5 qu_73) (fun a w hE hR hh=>?_)
                replace H:=M.at hh H; clear hh
                refine t_nil ?_
                exact ⟨IntKind.wrap .i64 (x13_51 - 1),hE.cut (.cons rfl (.cons rfl (.cons rfl (.cons rfl (.cons rfl (.cons rfl (.cons rfl Subs.nil))))))),hR,H⟩
            · replace H:=M.ite_f hb H
              refine w_seq (fun K hK_74=>?_)
              refine t_region ?_
              refine t_val (v:=.int .i64 x2) rfl rfl hE rfl (r_move hE rfl) (fun a hE=>?_)
              refine t_val (v:=.int .u64 (IntKind.wrap .u64 x2)) rfl rfl hE rfl (r_convI hE rfl un3 un154) (fun a hE=>?_)
              refine t_val (v:=.int .u64 (IntKind.wrap .u64 x2)) rfl rfl hE rfl (r_assign hE rfl) (fun a hE=>?_)
              refine t_nil ?_
              refine hK_74 _ _ ?_
              refine w_seq (fun K hK_75=>?_)
              refine w_block ?_
              refine l_loop (fun (s : Int × Int)=>(⟨102,[]⟩ : Frm)) (fun (s : Int × Int)=>[(0,(x0 : Sl).v),(1,.int .u64 s.1),(3,.bool x3),(4,.bool x4),(10,(Sl.nil : Sl).v),(11,.string ByteArray.empty),(12,.pointer (some x12_7)),(13,.int .i64 s.2),(17,.int .u64 (IntKind.wrap .u64 x2))]) H (hE.cut (.cons rfl (.cons rfl (.cons rfl (.cons rfl (.cons rfl (.cons rfl (.cons rfl (.cons rfl (.cons rfl Subs.nil)))))))))) hR (fun Y self2 hY_85 s a w hE hR H=>?_)
              rcases s with ⟨x1_76,x13_77⟩
              replace hE : Env (⟨102,[]⟩ : Frm) a [(0,(x0 : Sl).v),(1,.int .u64 x1_76),(3,.bool x3),(4,.bool x4),(10,(Sl.nil : Sl).v),(11,.string ByteArray.empty),(12,.pointer (some x12_7)),(13,.int .i64 x13_77),(17,.int .u64 (IntKind.wrap .u64 x2))]:=hE
              replace H : (internal_strconv_formatBits_l2 x0 x3 x4 Sl.nil ByteArray.empty x12_7 (IntKind.wrap .u64 x2) self2 (x1_76,x13_77)).wp w.heap Q:=H
              unfold internal_strconv_formatBits_l2 at H
              refine w_seq (fun K hK_86=>?_)
              refine w_seq (fun K hK_87=>?_)
              refine t_region ?_
              refine t_val (v:=.int .u64 x1_76) rfl rfl hE rfl (r_move hE rfl) (fun a hE=>?_)
              refine t_val (v:=.int .u64 (IntKind.wrap .u64 x2)) rfl rfl hE rfl (r_move hE rfl) (fun a hE=>?_)
              refine t_val (v:=.bool (decide (x1_76 ≥ (IntKind.wrap .u64 x2)))) rfl rfl hE rfl (r_bin hE rfl rfl g_int b_geq) (fun a hE=>?_)
              refine t_nil ?_
              refine hK_87 _ _ ?_
              refine w_cond (decide (x1_76 ≥ (IntKind.wrap .u64 x2))) hE rfl (fun hb=>?_) (fun hb=>?_)
              · replace H:=M.ite_t hb H
                refine w_skip ?_
                refine hK_86 _ _ ?_
                refine w_block ?_
                refine w_seq (fun K hK_88=>?_)
                refine t_region ?_
                refine t_val (v:=.int .i64 x13_77) rfl rfl hE rfl (r_move hE rfl) (fun a hE=>?_)
                refine t_val (v:=.int .i64 (IntKind.wrap .i64 (x13_77 - 1))) rfl rfl hE rfl (r_bin hE rfl rfl g_int b_sub) (fun a hE=>?_)
                refine t_val (v:=.int .i64 (IntKind.wrap .i64 (x13_77 - 1))) rfl rfl hE rfl (r_assign hE rfl) (fun a hE=>?_)
                refine t_nil ?_
                refine hK_88 _ _ ?_
                refine w_seq (fun K hK_89=>?_)
                refine t_region ?_
                refine t_val (v:=.int .u64 x1_76) rfl rfl hE rfl (r_move hE rfl) (fun a hE=>?_)
                refine t_val (v:=.int .u64 (IntKind.wrap .u64 x2)) rfl rfl hE rfl (r_move hE rfl) (fun a hE=>?_)
                obtain ⟨x73_90,qx73_90,H⟩:=H
                refine t_val (v:=.int .u64 x73_90) rfl rfl hE rfl (r_bin hE rfl rfl g_int (b_quo qx73_90)) (fun a hE=>?_)
                refine t_val (v:=.int .u64 x73_90) rfl rfl hE rfl (r_assign hE rfl) (fun a hE=>?_)
                refine t_nil ?_
                refine hK_89 _ _ ?_
                refine w_seq (fun K hK_91=>?_)
                refine t_region ?_
                refine t_val (v:=.int .i64 (IntKind.wrap .i64 (x13_77 - 1))) rfl rfl hE rfl (r_move hE rfl) (fun a hE=>?_)
                refine t_val (v:=.int .u64 x1_76) rfl rfl hE rfl (r_move hE rfl) (fun a hE=>?_)
                refine t_val (v:=.int .u64 x73_90) rfl rfl hE rfl (r_move hE rfl) (fun a hE=>?_)
                refine t_val (v:=.int .u64 (IntKind.wrap .u64 x2)) rfl rfl hE rfl (r_move hE rfl) (fun a hE=>?_)
                refine t_val (v:=.int .u64 (IntKind.wrap .u64 (x73_90 * (IntKind.wrap .u64 x2)))) rfl rfl hE rfl (r_bin hE rfl rfl g_int b_mul) (fun a hE=>?_)
                refine t_val (v:=.int .u64 (IntKind.wrap .u64 (x1_76 - (IntKind.wrap .u64 (x73_90 * (IntKind.wrap .u64 x2)))))) rfl rfl hE rfl (r_bin hE rfl rfl g_int b_sub) (fun a hE=>?_)
                obtain ⟨x80_92,qx80_92,H⟩:=H
                refine t_val (v:=.int .u8 x80_92) rfl rfl hE rfl (r_indexS hE rfl rfl un9 qx80_92) (fun a hE=>?_)
                obtain ⟨x81_93,qx81_93,H⟩:=H
                refine t_val (v:=.pointer (some x81_93)) rfl rfl hE rfl (r_indexAddrA hE rfl rfl un246 sz5 qx81_93) (fun a hE=>?_)
                obtain ⟨u_94,qu_94,H⟩:=H
                refine t_sth rfl rfl hE hR (r_store hE rfl rfl sz5 qu_94) (fun a w hE hR hh=>?_)
                replace H:=M.at hh H; clear hh
                refine t_nil ?_
                refine hK_91 _ _ ?_
                refine t_region ?_
                refine t_val (v:=.int .u64 x73_90) rfl rfl hE rfl (r_move hE rfl) (fun a hE=>?_)
                refine t_val (v:=.int .u64 x73_90) rfl rfl hE rfl (r_assign hE rfl) (fun a hE=>?_)
                refine t_nil ?_
                exact hY_85 (x73_90,IntKind.wrap .i64 (x13_77 - 1)) _ _ (hE.cut (.cons rfl (.cons rfl (.cons rfl (.cons rfl (.cons rfl (.cons rfl (.cons rfl (.cons rfl (.cons rfl Subs.nil)))))))))) hR H
              · replace H:=M.ite_f hb H
                refine w_exit ?_
                refine Xu.same ?_
                refine hK_75 _ _ ?_
                refine w_seq (fun K hK_95=>?_)
                refine t_region ?_
                refine t_val (v:=.int .i64 x13_77) rfl rfl hE rfl (r_move hE rfl) (fun a hE=>?_)
                refine t_val (v:=.int .i64 (IntKind.wrap .i64 (x13_77 - 1))) rfl rfl hE rfl (r_bin hE rfl rfl g_int b_sub) (fun a hE=>?_)
                refine t_val (v:=.int .i64 (IntKind.wrap .i64 (x13_77 - 1))) rfl rfl hE rfl (r_assign hE rfl) (fun a hE=>?_)
                refine t_nil ?_
                refine hK_95 _ _ ?_
                refine t_region ?_
                refine t_val (v:=.int .i64 (IntKind.wrap .i64 (x13_77 - 1))) rfl rfl hE rfl (r_move hE rfl) (fun a hE=>?_)
                refine t_val (v:=.int .u64 x1_76) rfl rfl hE rfl (r_move hE rfl) (fun a hE=>?_)
                obtain ⟨x87_96,qx87_96,H⟩:=H
                refine t_val (v:=.int .u8 x87_96) rfl rfl hE rfl (r_indexS hE rfl rfl un9 qx87_96) (fun a hE=>?_)
                obtain ⟨x88_97,qx88_97,H⟩:=H
                refine t_val (v:=.pointer (some x88_97)) rfl rfl hE rfl (r_indexAddrA hE rfl rfl un246 sz5 qx88_97) (fun a hE=>?_)
                obtain ⟨u_98,qu_98,H⟩:=H
                refine t_sth rfl rfl hE hR (r_store hE rfl rfl sz5 qu_98) (fun a w hE hR hh=>?_)
                replace H:=M.at hh H; clear hh
                refine t_nil ?_
                exact ⟨IntKind.wrap .i64 (x13_77 - 1),hE.cut (.cons rfl (.cons rfl (.cons rfl (.cons rfl (.cons rfl (.cons rfl (.cons rfl Subs.nil))))))),hR,H⟩
        · skip
          refine w_seq (fun K hK_99=>?_)
          refine t_region ?_
          refine t_val (v:=.bool x3) rfl rfl hE rfl (r_move hE rfl) (fun a hE=>?_)
          refine t_nil ?_
          refine hK_99 _ _ ?_
          refine w_cond x3 hE rfl (fun hb=>?_) (fun hb=>?_)
          · replace H:=M.ite_t hb H
            refine t_region ?_
            refine t_val (v:=.int .u64 x1) rfl rfl hE rfl (r_move hE rfl) (fun a hE=>?_)
            refine t_val (v:=.int .u64 (IntKind.wrap .u64 (0 - x1))) rfl rfl hE rfl (r_un hE rfl u_neg) (fun a hE=>?_)
            refine t_val (v:=.int .u64 (IntKind.wrap .u64 (0 - x1))) rfl rfl hE rfl (r_assign hE rfl) (fun a hE=>?_)
            refine t_nil ?_
            exact ⟨IntKind.wrap .u64 (0 - x1),hE.cut (.cons rfl (.cons rfl (.cons rfl (.cons rfl (.cons rfl (.cons rfl (.cons rfl (.cons rfl (.cons rfl Subs.nil))))))))),hR,H⟩
          · replace H:=M.ite_f hb H
            refine w_skip ?_
            exact ⟨x1,hE.cut (.cons rfl (.cons rfl (.cons rfl (.cons rfl (.cons rfl (.cons rfl (.cons rfl (.cons rfl (.cons rfl Subs.nil))))))))),hR,H⟩

def internal_strconv_FormatInt_j1 (c0_13 : Int) (c5_14 : Addr) (x6_12 : Int) : M (ByteArray):=do
  let x27_16 ← internal_strconv_numDigits x6_12
  let x30_18 ← slA c5_14 24 1 (IntKind.wrap .i64 (1 + x27_16)) 1
  let x32_19 ← internal_strconv_formatBase10 x30_18 x6_12
  M.ite (decide (c0_13 < 0)) (do
    let x35_23 ← ixA c5_14 24 0 1
    stV x35_23 (.int .u8 45)
    let x38_26 ← slA c5_14 24 0 (IntKind.wrap .i64 (1 + x27_16)) 1
    let x39_27 ← b2s x38_26
    M.pure x39_27
    ) (do
    let x42_29 ← slA c5_14 24 1 (IntKind.wrap .i64 (1 + x27_16)) 1
    let x43_30 ← b2s x42_29
    M.pure x43_30
    )
def internal_strconv_FormatInt (x0 : Int) (x1 : Int) : M (ByteArray):=do
  M.ite (x1 == 10) (do
    let x17_6 ← M.ite (decide (0 ≤ x0)) (do
      M.pure (decide (x0 < 100))
      ) (do
      M.pure false
      )
    M.ite x17_6 (do
      let x19_8 ← internal_strconv_small x0
      M.pure x19_8
      ) (do
      let x5_10 ← mkB ty_24_uint8 (Array.replicate 24 (.int .u8 0) : Array Value)
      M.ite (decide (x0 < 0)) (do
        internal_strconv_FormatInt_j1 x0 x5_10 (IntKind.wrap .u64 (0 - (IntKind.wrap .u64 x0)))
        ) (do
        internal_strconv_FormatInt_j1 x0 x5_10 (IntKind.wrap .u64 x0)
        )
      )
    ) (do
    let x50_33 ← internal_strconv_formatBits Sl.nil (IntKind.wrap .u64 x0) x1 (decide (x0 < 0)) false
    M.pure x50_33.2
    )
theorem S_internal_strconv_FormatInt (x0 : Int) (x1 : Int) : Sound Go.Proofs.Tryz.prog 198 #[.int .i64 x0,.int .i64 x1] (fun (r : ByteArray)=>.string r) (internal_strconv_FormatInt x0 x1):=by
  refine sound_of [(0,.int .i64 x0),(1,.int .i64 x1)] Go.Proofs.Tryz.func198 rfl rfl (Nat.le_of_ble_eq_true rfl) (args_of ⟨rfl,rfl,trivial⟩) (fun w0 w Q R a hret hE hR H=>?_)
  unfold internal_strconv_FormatInt at H
  refine w_seq (fun K hK_1=>?_)
  refine t_region ?_
  refine t_val (v:=.string ByteArray.empty) rfl rfl hE rfl (r_assign hE rfl) (fun a hE=>?_)
  refine t_nil ?_
  refine hK_1 _ _ ?_
  refine w_seq (fun K hK_2=>?_)
  refine w_seq (fun K hK_3=>?_)
  refine t_region ?_
  refine t_val (v:=.int .i64 x1) rfl rfl hE rfl (r_move hE rfl) (fun a hE=>?_)
  refine t_val (v:=.bool (x1 == 10)) rfl rfl hE rfl (r_bin hE rfl rfl g_int b_eql) (fun a hE=>?_)
  refine t_nil ?_
  refine hK_3 _ _ ?_
  refine w_cond (x1 == 10) hE rfl (fun hb=>?_) (fun hb=>?_)
  · replace H:=M.ite_t hb H
    refine w_seq (fun K hK_4=>?_)
    refine w_seq (fun K hK_5=>?_)
    refine t_region ?_
    refine t_val (v:=.int .i64 x0) rfl rfl hE rfl (r_move hE rfl) (fun a hE=>?_)
    refine t_val (v:=.bool (decide (0 ≤ x0))) rfl rfl hE rfl (r_bin hE rfl rfl g_int b_leq) (fun a hE=>?_)
    refine t_val (v:=.bool (decide (0 ≤ x0))) rfl rfl hE rfl (r_move hE rfl) (fun a hE=>?_)
    refine t_grp (n:=(⟨54,[]⟩ : Frm)) (w0:=w0) 3 (fun x17_6 : Bool=>[(0,.int .i64 x0),(17,.bool x17_6)]) (M.unbind H) (fun Kr hKr H=>?_) ?_
    · rcases bool_em (decide (0 ≤ x0)) with hb | hb
      · replace H:=M.ite_t hb H
        have hE:=hE.reb 14 (decide (0 ≤ x0)) true hb rfl
        refine t_on rfl hE rfl rfl rfl ?_
        refine t_val (v:=.int .i64 x0) rfl rfl hE rfl (r_move hE rfl) (fun a hE=>?_)
        refine t_on rfl hE rfl rfl rfl ?_
        refine t_val (v:=.bool (decide (x0 < 100))) rfl rfl hE rfl (r_bin hE rfl rfl g_int b_lss) (fun a hE=>?_)
        refine t_val rfl rfl hE rfl (r_pick_t hE rfl rfl) (fun a hE=>?_)
        refine t_nil ?_
        exact hKr _ _ _ (hE.cut (.cons rfl (.cons rfl Subs.nil))) hR H
      · replace H:=M.ite_f hb H
        have hE:=hE.reb 14 (decide (0 ≤ x0)) false hb rfl
        refine t_off rfl hE rfl rfl rfl (fun a ea=>?_)
        have hE:=Env.put_some hE rfl ea; clear ea
        refine t_off rfl hE rfl rfl rfl (fun a ea=>?_)
        have hE:=Env.put_some hE rfl ea; clear ea
        refine t_val rfl rfl hE rfl (r_pick_f hE rfl rfl) (fun a hE=>?_)
        refine t_nil ?_
        exact hKr _ _ _ (hE.cut (.cons rfl (.cons rfl Subs.nil))) hR H
    · intro x17_6 a w hE hR H
      refine t_nil ?_
      refine hK_5 _ _ ?_
      refine w_cond x17_6 hE rfl (fun hb=>?_) (fun hb=>?_)
      · replace H:=M.ite_t hb H
        refine w_seq (fun K hK_7=>?_)
        refine t_region ?_
        refine t_val (v:=.int .i64 x0) rfl rfl hE rfl (r_move hE rfl) (fun a hE=>?_)
        refine t_call hE hR cl_internal_strconv_small rfl (S_internal_strconv_small x0) (M.unbind H) (fun x19_8 a w ea hR H=>?_)
        have hE:=Env.put_some hE rfl ea; clear ea
        refine t_val (v:=.string x19_8) rfl rfl hE rfl (r_assign hE rfl) (fun a hE=>?_)
        refine t_nil ?_
        refine hK_7 _ _ ?_
        refine w_ret ?_
        exact hret _ _ _ x19_8 _ hE hR (res_run hE rfl (RV.tmp rfl RV.nil)) rfl H
      · replace H:=M.ite_f hb H
        refine w_skip ?_
        refine hK_4 _ _ ?_
        refine w_seq (fun K hK_9=>?_)
        refine t_region ?_
        obtain ⟨x5_10,qx5_10,H⟩:=H
        refine t_valh (v:=.pointer (some x5_10)) rfl rfl hE rfl hR (r_alloc zr221 qx5_10) (fun a w hE hR hh=>?_)
        replace H:=M.at hh H; clear hh
        refine t_nil ?_
        refine hK_9 _ _ ?_
        refine w_seq (fun K hK_11=>?_)
        refine t_region ?_
        refine t_val (v:=.int .i64 x0) rfl rfl hE rfl (r_move hE rfl) (fun a hE=>?_)
        refine t_val (v:=.int .u64 (IntKind.wrap .u64 x0)) rfl rfl hE rfl (r_convI hE rfl un2 un154) (fun a hE=>?_)
        refine t_val (v:=.int .u64 (IntKind.wrap .u64 x0)) rfl rfl hE rfl (r_assign hE rfl) (fun a hE=>?_)
        refine t_nil ?_
        refine hK_11 _ _ ?_
        refine w_seq_join (fun a w=>∃ (x6_12 : Int),Env (⟨54,[]⟩ : Frm) a [(0,.int .i64 x0),(5,.pointer (some x5_10)),(6,.int .u64 x6_12)] ∧ Rest w0 w ∧ (internal_strconv_FormatInt_j1 x0 x5_10 x6_12).wp w.heap Q) ?_ ?_
        · rintro a w ⟨x6_12,hE,hR,H⟩
          unfold internal_strconv_FormatInt_j1 at H
          refine w_seq (fun K hK_15=>?_)
          refine t_region ?_
          refine t_val (v:=.int .u64 x6_12) rfl rfl hE rfl (r_move hE rfl) (fun a hE=>?_)
          refine t_call hE hR cl_internal_strconv_numDigits rfl (S_internal_strconv_numDigits x6_12) (M.unbind H) (fun x27_16 a w ea hR H=>?_)
          have hE:=Env.put_some hE rfl ea; clear ea
          refine t_val (v:=.int .i64 x27_16) rfl rfl hE rfl (r_assign hE rfl) (fun a hE=>?_)
          refine t_nil ?_
          refine hK_15 _ _ ?_
          refine w_seq (fun K hK_17=>?_)
          refine t_region ?_
          refine t_val (v:=.int .i64 x27_16) rfl rfl hE rfl (r_move hE rfl) (fun a hE=>?_)
          refine t_val (v:=.int .i64 (IntKind.wrap .i64 (1 + x27_16))) rfl rfl hE rfl (r_bin hE rfl rfl g_int b_add) (fun a hE=>?_)
          obtain ⟨x30_18,qx30_18,H⟩:=H
          refine t_val (v:=(x30_18 : Sl).v) rfl rfl hE rfl (r_sliceA_lh hE rfl rfl rfl un221 sz5 qx30_18) (fun a hE=>?_)
          refine t_val (v:=.int .u64 x6_12) rfl rfl hE rfl (r_move hE rfl) (fun a hE=>?_)
          refine t_call hE hR cl_internal_strconv_formatBase10 rfl (S_internal_strconv_formatBase10 x30_18 x6_12) (M.unbind H) (fun x32_19 a w ea hR H=>?_)
          have hE:=Env.put_some hE rfl ea; clear ea
          refine t_nil ?_
          refine hK_17 _ _ ?_
          refine w_seq (fun K hK_20=>?_)
          refine w_seq (fun K hK_21=>?_)
          refine t_region ?_
          refine t_val (v:=.int .i64 x0) rfl rfl hE rfl (r_move hE rfl) (fun a hE=>?_)
          refine t_val (v:=.bool (decide (x0 < 0))) rfl rfl hE rfl (r_bin hE rfl rfl g_int b_lss) (fun a hE=>?_)
          refine t_nil ?_
          refine hK_21 _ _ ?_
          refine w_cond (decide (x0 < 0)) hE rfl (fun hb=>?_) (fun hb=>?_)
          · replace H:=M.ite_t hb H
            refine w_seq (fun K hK_22=>?_)
            refine t_region ?_
            obtain ⟨x35_23,qx35_23,H⟩:=H
            refine t_val (v:=.pointer (some x35_23)) rfl rfl hE rfl (r_indexAddrA hE rfl rfl un221 sz5 qx35_23) (fun a hE=>?_)
            obtain ⟨u_24,qu_24,H⟩:=H
            refine t_sth rfl rfl hE hR (r_store hE rfl rfl sz5 qu_24) (fun a w hE hR hh=>?_)
            replace H:=M.at hh H; clear hh
            refine t_nil ?_
            refine hK_22 _ _ ?_
            refine w_seq (fun K hK_25=>?_)
            refine t_region ?_
            refine t_val (v:=.int .i64 x27_16) rfl rfl hE rfl (r_move hE rfl) (fun a hE=>?_)
            refine t_val (v:=.int .i64 (IntKind.wrap .i64 (1 + x27_16))) rfl rfl hE rfl (r_bin hE rfl rfl g_int b_add) (fun a hE=>?_)
            obtain ⟨x38_26,qx38_26,H⟩:=H
            refine t_val (v:=(x38_26 : Sl).v) rfl rfl hE rfl (r_sliceA_h hE rfl rfl un221 sz5 qx38_26) (fun a hE=>?_)
            obtain ⟨x39_27,qx39_27,H⟩:=H
            refine t_val (v:=.string x39_27) rfl rfl hE rfl (b2s_run hE rfl un35 un9 un5 qx39_27) (fun a hE=>?_)
            refine t_val (v:=.string x39_27) rfl rfl hE rfl (r_assign hE rfl) (fun a hE=>?_)
            refine t_nil ?_
            refine hK_25 _ _ ?_
            refine w_ret ?_
            exact hret _ _ _ x39_27 _ hE hR (res_run hE rfl (RV.tmp rfl RV.nil)) rfl H
          · replace H:=M.ite_f hb H
            refine w_skip ?_
            refine hK_20 _ _ ?_
            refine w_seq (fun K hK_28=>?_)
            refine t_region ?_
            refine t_val (v:=.int .i64 x27_16) rfl rfl hE rfl (r_move hE rfl) (fun a hE=>?_)
            refine t_val (v:=.int .i64 (IntKind.wrap .i64 (1 + x27_16))) rfl rfl hE rfl (r_bin hE rfl rfl g_int b_add) (fun a hE=>?_)
            obtain ⟨x42_29,qx42_29,H⟩:=H
            refine t_val (v:=(x42_29 : Sl).v) rfl rfl hE rfl (r_sliceA_lh hE rfl rfl rfl un221 sz5 qx42_29) (fun a hE=>?_)
            obtain ⟨x43_30,qx43_30,H⟩:=H
            refine t_val (v:=.string x43_30) rfl rfl hE rfl (b2s_run hE rfl un35 un9 un5 qx43_30) (fun a hE=>?_)
            refine t_val (v:=.string x43_30) rfl rfl hE rfl (r_assign hE rfl) (fun a hE=>?_)
            refine t_nil ?_
            refine hK_28 _ _ ?_
            refine w_ret ?_
            exact hret _ _ _ x43_30 _ hE hR (res_run hE rfl (RV.tmp rfl RV.nil)) rfl H
        · skip
          refine w_seq (fun K hK_31=>?_)
          refine t_region ?_
          refine t_val (v:=.int .i64 x0) rfl rfl hE rfl (r_move hE rfl) (fun a hE=>?_)
          refine t_val (v:=.bool (decide (x0 < 0))) rfl rfl hE rfl (r_bin hE rfl rfl g_int b_lss) (fun a hE=>?_)
          refine t_nil ?_
          refine hK_31 _ _ ?_
          refine w_cond (decide (x0 < 0)) hE rfl (fun hb=>?_) (fun hb=>?_)
          · replace H:=M.ite_t hb H
            refine t_region ?_
            refine t_val (v:=.int .u64 (IntKind.wrap .u64 x0)) rfl rfl hE rfl (r_move hE rfl) (fun a hE=>?_)
            refine t_val (v:=.int .u64 (IntKind.wrap .u64 (0 - (IntKind.wrap .u64 x0)))) rfl rfl hE rfl (r_un hE rfl u_neg) (fun a hE=>?_)
            refine t_val (v:=.int .u64 (IntKind.wrap .u64 (0 - (IntKind.wrap .u64 x0)))) rfl rfl hE rfl (r_assign hE rfl) (fun a hE=>?_)
            refine t_nil ?_
            exact ⟨IntKind.wrap .u64 (0 - (IntKind.wrap .u64 x0)),hE.cut (.cons rfl (.cons rfl (.cons rfl Subs.nil))),hR,H⟩
          · replace H:=M.ite_f hb H
            refine w_skip ?_
            exact ⟨IntKind.wrap .u64 x0,hE.cut (.cons rfl (.cons rfl (.cons rfl Subs.nil))),hR,H⟩
  · replace H:=M.ite_f hb H
    refine w_skip ?_
    refine hK_2 _ _ ?_
    refine w_seq (fun K hK_32=>?_)
    refine t_region ?_
    refine t_val (v:=.int .i64 x0) rfl rfl hE rfl (r_move hE rfl) (fun a hE=>?_)
    refine t_val (v:=.int .u64 (IntKind.wrap .u64 x0)) rfl rfl hE rfl (r_convI hE rfl un2 un154) (fun a hE=>?_)
    refine t_val (v:=.int .i64 x1) rfl rfl hE rfl (r_move hE rfl) (fun a hE=>?_)
    refine t_val (v:=.int .i64 x0) rfl rfl hE rfl (r_move hE rfl) (fun a hE=>?_)
    refine t_val (v:=.bool (decide (x0 < 0))) rfl rfl hE rfl (r_bin hE rfl rfl g_int b_lss) (fun a hE=>?_)
    refine t_call hE hR cl_internal_strconv_formatBits rfl (S_internal_strconv_formatBits Sl.nil (IntKind.wrap .u64 x0) x1 (decide (x0 < 0)) false) (M.unbind H) (fun x50_33 a w ea hR H=>?_)
    have hE:=Env.put_some hE rfl ea; clear ea
    refine t_val (v:=.tuple #[(x50_33.1 : Sl).v,.string x50_33.2]) rfl rfl hE rfl (r_move hE rfl) (fun a hE=>?_)
    refine t_val (v:=(x50_33.1 : Sl).v) rfl rfl hE rfl (r_extract hE rfl rfl) (fun a hE=>?_)
    refine t_val (v:=.string x50_33.2) rfl rfl hE rfl (r_extract hE rfl rfl) (fun a hE=>?_)
    refine t_val (v:=(x50_33.1 : Sl).v) rfl rfl hE rfl (r_assign hE rfl) (fun a hE=>?_)
    refine t_val (v:=.string x50_33.2) rfl rfl hE rfl (r_assign hE rfl) (fun a hE=>?_)
    refine t_nil ?_
    refine hK_32 _ _ ?_
    refine w_seq (fun K hK_34=>?_)
    refine t_region ?_
    refine t_val (v:=.string x50_33.2) rfl rfl hE rfl (r_move hE rfl) (fun a hE=>?_)
    refine t_val (v:=.string x50_33.2) rfl rfl hE rfl (r_assign hE rfl) (fun a hE=>?_)
    refine t_nil ?_
    refine hK_34 _ _ ?_
    refine w_ret ?_
    exact hret _ _ _ x50_33.2 _ hE hR (res_run hE rfl (RV.tmp rfl RV.nil)) rfl H

theorem tb136_3 : tabAt Go.Proofs.Tryz.f136 3 [[],[],[],[1,2],[3],[0,4],[5,0,1,2,3,4,5]] [[],[],[],[1,2],[3],[0,4],[5]] [[],[],[],[1,2],[1,2,3],[0,1,2,3,4],[0,1,2,3,4,5]] = true:=by kernel_rfl
def slices_Chunk_slapi_Value_api_Value_1_l1 (c0_3 : Value) (c1_4 : Addr) (c2_5 : Addr) (self1 : (Int) → M (Unit)) : (Int) → M (Unit):=fun s=>match s with
  | x4_2=>do
    let x7_9 ← ldL c1_4
    M.ite (decide (x4_2 < (x7_9.len : Int))) (do
      let x13_12 ← ldI .i64 c2_5
      let x14_13 ← ldL c1_4
      let x16_14 ← slL x14_13 x4_2 x14_13.len 4
      let x20_16 ← ldL c1_4
      let x28_17 ← slL3 x20_16 x4_2 (IntKind.wrap .i64 (x4_2 + (iMin x13_12 (x16_14.len : Int)))) (IntKind.wrap .i64 (x4_2 + (iMin x13_12 (x16_14.len : Int)))) 4
      let x29_18 ← callV Go.Proofs.Tryz.prog (fun r : Bool=>.bool r) c0_3 [(x28_17 : Sl).v]
      M.ite (!x29_18) (do
        M.pure ()
        ) (do
        let x11_19 ← ldI .i64 c2_5
        self1 (IntKind.wrap .i64 (x4_2 + x11_19))
        )
      ) (do
      M.pure ()
      )
def slices_Chunk_slapi_Value_api_Value_1 (x0 : Value) (x1 : Addr) (x2 : Addr) : M (Unit):=do
  M.loop (slices_Chunk_slapi_Value_api_Value_1_l1 x0 x1 x2) 0
theorem S_slices_Chunk_slapi_Value_api_Value_1 (x0 : Value) (x1 : Addr) (x2 : Addr) : Sound Go.Proofs.Tryz.prog 136 #[x0,.pointer (some x1),.pointer (some x2)] (fun (r : Unit)=>.tuple #[]) (slices_Chunk_slapi_Value_api_Value_1 x0 x1 x2):=by
  refine sound_of [(0,x0),(1,.pointer (some x1)),(2,.pointer (some x2))] Go.Proofs.Tryz.func136 rfl rfl (Nat.le_of_ble_eq_true rfl) (args_of ⟨rfl,rfl,rfl,trivial⟩) (fun w0 w Q R a hret hE hR H=>?_)
  unfold slices_Chunk_slapi_Value_api_Value_1 at H
  refine w_seq (fun K hK_1=>?_)
  refine t_region ?_
  refine t_val (v:=.int .i64 0) rfl rfl hE rfl (r_assign hE rfl) (fun a hE=>?_)
  refine t_nil ?_
  refine hK_1 _ _ ?_
  refine w_block ?_
  refine l_loop (fun (s : Int)=>(⟨31,[]⟩ : Frm)) (fun (s : Int)=>[(0,x0),(1,.pointer (some x1)),(2,.pointer (some x2)),(4,.int .i64 s)]) H (hE.cut (.cons rfl (.cons rfl (.cons rfl (.cons rfl Subs.nil))))) hR (fun Y self1 hY_6 x4_2 a w hE hR H=>?_)
  replace hE : Env (⟨31,[]⟩ : Frm) a [(0,x0),(1,.pointer (some x1)),(2,.pointer (some x2)),(4,.int .i64 x4_2)]:=hE
  replace H : (slices_Chunk_slapi_Value_api_Value_1_l1 x0 x1 x2 self1 x4_2).wp w.heap Q:=H
  unfold slices_Chunk_slapi_Value_api_Value_1_l1 at H
  refine w_seq (fun K hK_7=>?_)
  refine w_seq (fun K hK_8=>?_)
  refine t_region ?_
  refine t_val (v:=.int .i64 x4_2) rfl rfl hE rfl (r_move hE rfl) (fun a hE=>?_)
  obtain ⟨x7_9,qx7_9,H⟩:=H
  refine t_val (v:=(x7_9 : Sl).v) rfl rfl hE rfl (r_load hE rfl sc22 qx7_9) (fun a hE=>?_)
  refine t_val (v:=.int .i64 (x7_9.len : Int)) rfl rfl hE rfl (r_len hE rfl 24 un22) (fun a hE=>?_)
  refine t_val (v:=.bool (decide (x4_2 < (x7_9.len : Int)))) rfl rfl hE rfl (r_bin hE rfl rfl g_int b_lss) (fun a hE=>?_)
  refine t_nil ?_
  refine hK_8 _ _ ?_
  refine w_cond (decide (x4_2 < (x7_9.len : Int))) hE rfl (fun hb=>?_) (fun hb=>?_)
  · replace H:=M.ite_t hb H
    refine w_skip ?_
    refine hK_7 _ _ ?_
    refine w_seq (fun K hK_10=>?_)
    refine w_block ?_
    refine w_seq (fun K hK_11=>?_)
    obtain ⟨x13_12,qx13_12,H⟩:=H
    obtain ⟨x14_13,qx14_13,H⟩:=H
    obtain ⟨x16_14,qx16_14,H⟩:=H
    have hT:=tab_of tb136_3 rfl rfl
    refine d_start (fun w : World=>(fun h : Heap=>(hcell h x2 = some (.int .i64 x13_12)) ∧ (hcell h x1 = some ((x14_13 : Sl).v))) w.heap) [5,6] #[false,false,false,false,false,false,false] mo hR rfl rfl (fun w' e=>by rw [e]; exact ⟨qx13_12,qx14_13⟩) (fun w hh hR hs=>?_)
    replace H:=M.at hh H; clear hh
    refine d_pureg (i:=2) (v:=.int .i64 x4_2) #[false,false,true,false,false,false,false] rfl rfl hT (by kernel_rfl) hE rfl (wanted_none rfl) (fun w=>r_move hE rfl) (fun a hE=>?_)
    refine d_read (i:=0) (v:=.int .i64 x13_12) #[true,false,true,false,false,false,false] rfl rfl hT (by kernel_rfl) hE rfl (wanted_none rfl) hs (fun w s=>r_load hE rfl sc3 s.1) (fun a hE=>?_)
    refine d_read (i:=1) (v:=(x14_13 : Sl).v) #[true,true,true,false,false,false,false] rfl rfl hT (by kernel_rfl) hE rfl (wanted_none rfl) hs (fun w s=>r_load hE rfl sc22 s.2) (fun a hE=>?_)
    refine d_pureg (i:=3) (v:=(x16_14 : Sl).v) #[true,true,true,true,false,false,false] rfl rfl hT (by kernel_rfl) hE rfl (wanted_none rfl) (fun w=>r_sliceL_l hE rfl rfl un22 sz24 qx16_14) (fun a hE=>?_)
    refine d_pureg (i:=4) (v:=.int .i64 (x16_14.len : Int)) #[true,true,true,true,true,false,false] rfl rfl hT (by kernel_rfl) hE rfl (wanted_none rfl) (fun w=>r_len hE rfl 24 un22) (fun a hE=>?_)
    refine d_pureg (i:=5) (v:=.int .i64 (iMin x13_12 (x16_14.len : Int))) #[true,true,true,true,true,true,false] rfl rfl hT (by kernel_rfl) hE rfl (wanted_none rfl) (fun w=>r_min hE rfl rfl) (fun a hE=>?_)
    refine d_pureg (i:=6) (v:=.int .i64 (iMin x13_12 (x16_14.len : Int))) #[true,true,true,true,true,true,true] rfl rfl hT (by kernel_rfl) hE rfl (wanted_none rfl) (fun w=>r_assign hE rfl) (fun a hE=>?_)
    refine d_done hT (by kernel_rfl) ?_
    refine hK_11 _ _ ?_
    refine w_seq (fun K hK_15=>?_)
    refine t_region ?_
    refine t_val (v:=x0) rfl rfl hE rfl (r_move hE rfl) (fun a hE=>?_)
    obtain ⟨x20_16,qx20_16,H⟩:=H
    refine t_val (v:=(x20_16 : Sl).v) rfl rfl hE rfl (r_load hE rfl sc22 qx20_16) (fun a hE=>?_)
    refine t_val (v:=.int .i64 x4_2) rfl rfl hE rfl (r_move hE rfl) (fun a hE=>?_)
    refine t_val (v:=.int .i64 x4_2) rfl rfl hE rfl (r_move hE rfl) (fun a hE=>?_)
    refine t_val (v:=.int .i64 (iMin x13_12 (x16_14.len : Int))) rfl rfl hE rfl (r_move hE rfl) (fun a hE=>?_)
    refine t_val (v:=.int .i64 (IntKind.wrap .i64 (x4_2 + (iMin x13_12 (x16_14.len : Int))))) rfl rfl hE rfl (r_bin hE rfl rfl g_int b_add) (fun a hE=>?_)
    refine t_val (v:=.int .i64 x4_2) rfl rfl hE rfl (r_move hE rfl) (fun a hE=>?_)
    refine t_val (v:=.int .i64 (iMin x13_12 (x16_14.len : Int))) rfl rfl hE rfl (r_move hE rfl) (fun a hE=>?_)
    refine t_val (v:=.int .i64 (IntKind.wrap .i64 (x4_2 + (iMin x13_12 (x16_14.len : Int))))) rfl rfl hE rfl (r_bin hE rfl rfl g_int b_add) (fun a hE=>?_)
    obtain ⟨x28_17,qx28_17,H⟩:=H
    refine t_val (v:=(x28_17 : Sl).v) rfl rfl hE rfl (r_sliceL3 hE rfl rfl rfl rfl un22 sz24 qx28_17) (fun a hE=>?_)
    refine t_callV hE hR rfl rfl (M.unbind H) (fun x29_18 a w ea hR H=>?_)
    have hE:=Env.put_some hE rfl ea; clear ea
    refine t_val (v:=.bool (!x29_18)) rfl rfl hE rfl (r_un hE rfl u_not) (fun a hE=>?_)
    refine t_nil ?_
    refine hK_15 _ _ ?_
    refine w_cond (!x29_18) hE rfl (fun hb=>?_) (fun hb=>?_)
    · replace H:=M.ite_t hb H
      refine w_ret ?_
      exact hret _ _ _ () _ hE hR (res_run hE rfl RV.nil) rfl H
    · replace H:=M.ite_f hb H
      refine w_skip ?_
      refine hK_10 _ _ ?_
      refine t_region ?_
      refine t_val (v:=.int .i64 x4_2) rfl rfl hE rfl (r_move hE rfl) (fun a hE=>?_)
      obtain ⟨x11_19,qx11_19,H⟩:=H
      refine t_val (v:=.int .i64 x11_19) rfl rfl hE rfl (r_load hE rfl sc3 qx11_19) (fun a hE=>?_)
      refine t_val (v:=.int .i64 (IntKind.wrap .i64 (x4_2 + x11_19))) rfl rfl hE rfl (r_bin hE rfl rfl g_int b_add) (fun a hE=>?_)
      refine t_val (v:=.int .i64 (IntKind.wrap .i64 (x4_2 + x11_19))) rfl rfl hE rfl (r_assign hE rfl) (fun a hE=>?_)
      refine t_nil ?_
      exact hY_6 (IntKind.wrap .i64 (x4_2 + x11_19)) _ _ (hE.cut (.cons rfl (.cons rfl (.cons rfl (.cons rfl Subs.nil))))) hR H
  · replace H:=M.ite_f hb H
    refine w_exit ?_
    refine Xu.same ?_
    exact hret _ _ _ () _ hE hR (res_run hE rfl RV.nil) rfl H

theorem tb80_1 : tabAt Go.Proofs.Tryz.f80 1 [[],[0],[1],[],[3],[4],[2,5],[6,6,0,1,2,3,4,5,6]] [[],[0],[1],[],[3],[4],[2,5],[6]] [[],[0],[0,1],[],[3],[3,4],[0,1,2,3,4,5],[0,1,2,3,4,5,6]] = true:=by kernel_rfl
def value_Map_1 (x0 : Sl) (x1 : Sl) : M (Int):=do
  let x6_3 ← ixL x0 0 4
  let x9_4 ← ixL x1 0 4
  let x7_5 ← ldG 4 x6_3
  let x10_6 ← ldG 4 x9_4
  let x11_7 ← value_Compare x7_5 x10_6
  M.pure x11_7
theorem S_value_Map_1 (x0 : Sl) (x1 : Sl) : Sound Go.Proofs.Tryz.prog 80 #[(x0 : Sl).v,(x1 : Sl).v] (fun (r : Int)=>.int .i64 r) (value_Map_1 x0 x1):=by
  refine sound_of [(0,(x0 : Sl).v),(1,(x1 : Sl).v)] Go.Proofs.Tryz.func80 rfl rfl (Nat.le_of_ble_eq_true rfl) (args_of ⟨rfl,rfl,trivial⟩) (fun w0 w Q R a hret hE hR H=>?_)
  unfold value_Map_1 at H
  refine w_seq (fun K hK_1=>?_)
  refine t_region ?_
  refine t_val (v:=.int .i64 0) rfl rfl hE rfl (r_assign hE rfl) (fun a hE=>?_)
  refine t_nil ?_
  refine hK_1 _ _ ?_
  refine w_seq (fun K hK_2=>?_)
  obtain ⟨x6_3,qx6_3,H⟩:=H
  obtain ⟨x9_4,qx9_4,H⟩:=H
  obtain ⟨x7_5,qx7_5,H⟩:=H
  obtain ⟨x10_6,qx10_6,H⟩:=H
  have hT:=tab_of tb80_1 rfl rfl
  refine d_start (fun w : World=>(fun h : Heap=>(x7_5.size = 4 ∧ ∀ i,i < 4 → hcell h (Addr.add x6_3 i) = x7_5[i]?) ∧ (x10_6.size = 4 ∧ ∀ i,i < 4 → hcell h (Addr.add x9_4 i) = x10_6[i]?)) w.heap) [6,7] #[false,false,false,false,false,false,false,false] mo hR rfl rfl (fun w' e=>by rw [e]; exact ⟨qx7_5,qx10_6⟩) (fun w hh hR hs=>?_)
  replace H:=M.at hh H; clear hh
  refine d_pureg (i:=0) (v:=(x0 : Sl).v) #[true,false,false,false,false,false,false,false] rfl rfl hT (by kernel_rfl) hE rfl (wanted_none rfl) (fun w=>r_move hE rfl) (fun a hE=>?_)
  refine d_pureg (i:=1) (v:=.pointer (some x6_3)) #[true,true,false,false,false,false,false,false] rfl rfl hT (by kernel_rfl) hE rfl (wanted_none rfl) (fun w=>r_indexAddrL hE rfl rfl un22 sz24 qx6_3) (fun a hE=>?_)
  refine d_pureg (i:=3) (v:=(x1 : Sl).v) #[true,true,false,true,false,false,false,false] rfl rfl hT (by kernel_rfl) hE rfl (wanted_none rfl) (fun w=>r_move hE rfl) (fun a hE=>?_)
  refine d_pureg (i:=4) (v:=.pointer (some x9_4)) #[true,true,false,true,true,false,false,false] rfl rfl hT (by kernel_rfl) hE rfl (wanted_none rfl) (fun w=>r_indexAddrL hE rfl rfl un22 sz24 qx9_4) (fun a hE=>?_)
  refine d_read (i:=2) (v:=.agg x7_5) #[true,true,true,true,true,false,false,false] rfl rfl hT (by kernel_rfl) hE rfl (wanted_none rfl) hs (fun w s=>r_loadG hE rfl ag24 s.1) (fun a hE=>?_)
  refine d_read (i:=5) (v:=.agg x10_6) #[true,true,true,true,true,true,false,false] rfl rfl hT (by kernel_rfl) hE rfl (wanted_none rfl) hs (fun w s=>r_loadG hE rfl ag24 s.2) (fun a hE=>?_)
  refine d_calll (i:=6) #[true,true,true,true,true,true,true,false] rfl rfl rfl hT (by kernel_rfl) rfl hE hR (wanted_none rfl) cl_value_Compare rfl (S_value_Compare x7_5 x10_6) (M.unbind H) (fun x11_7 a w ea hR H=>?_)
  have hE:=Env.put_some hE rfl ea; clear ea
  refine d_pureg (i:=7) (v:=.int .i64 x11_7) #[true,true,true,true,true,true,true,true] rfl rfl hT (by kernel_rfl) hE rfl (wanted_none rfl) (fun w=>r_assign hE rfl) (fun a hE=>?_)
  refine d_done hT (by kernel_rfl) ?_
  refine hK_2 _ _ ?_
  refine w_ret ?_
  exact hret _ _ _ x11_7 _ hE hR (res_run hE rfl (RV.tmp rfl RV.nil)) rfl H

end Gx
namespace Gx
open Go
set_option linter.unusedVariables false
set_option maxRecDepth 100000
def value_reader_list_j2 (self1 : (Sl) → M (Value ⊕ (Sl))) (c0_29 : Option Addr) (c2_31 : Int) (x9_28 : Sl) : M (Value ⊕ (Sl)):=do
  let x46_34 ← value_reader_here c0_29
  let x53_36 ← M.ite (x46_34 != c2_31) (do
    M.pure (x46_34 != 44)
    ) (do
    M.pure false
    )
  M.ite x53_36 (do
    thr (value_reader_fail c0_29) fun x55_37=>do
      self1 x9_28
    ) (do
    self1 x9_28
    )
def value_reader_list_j1 (self1 : (Sl) → M (Value ⊕ (Sl))) (c0_18 : Option Addr) (c1_19 : Int) (c2_20 : Int) (c3_21 : Int) (c9_22 : Sl) : M (Value ⊕ (Sl)):=do
  thr (callFX Go.Proofs.Tryz.prog fn_value_reader_value #[.pointer c0_18,.int .i64 (IntKind.wrap .i64 (c1_19 + 1))] (fun r : Array Value=>.agg r)) fun x31_24=>do
    let y_26 ← fillL 4 1 (#[.int .i64 0,.int .i64 0,.string ByteArray.empty,.slice none 0 0] : Array Value) [(0,.agg x31_24)]
    let x32_25 ← bdL ty_api_Value 1 y_26
    let x33_27 ← apL ty_api_Value 4 56 (#[.int .i64 0,.int .i64 0,.string ByteArray.empty,.slice none 0 0] : Array Value) c9_22 x32_25
    M.ite (c3_21 == 2) (do
      thr (value_reader_must c0_18 (⟨#[58,32]⟩ : ByteArray)) fun x37_40=>do
        thr (callFX Go.Proofs.Tryz.prog fn_value_reader_value #[.pointer c0_18,.int .i64 (IntKind.wrap .i64 (c1_19 + 1))] (fun r : Array Value=>.agg r)) fun x42_41=>do
          let y_43 ← fillL 4 1 (#[.int .i64 0,.int .i64 0,.string ByteArray.empty,.slice none 0 0] : Array Value) [(0,.agg x42_41)]
          let x43_42 ← bdL ty_api_Value 1 y_43
          let x44_44 ← apL ty_api_Value 4 56 (#[.int .i64 0,.int .i64 0,.string ByteArray.empty,.slice none 0 0] : Array Value) x33_27 x43_42
          value_reader_list_j2 self1 c0_18 c2_20 x44_44
      ) (do
      value_reader_list_j2 self1 c0_18 c2_20 x33_27
      )
def value_reader_list_l1 (c0_10 : Option Addr) (c1_11 : Int) (c2_12 : Int) (c3_13 : Int) (self1 : (Sl) → M (Value ⊕ (Sl))) : (Sl) → M (Value ⊕ (Sl)):=fun s=>match s with
  | x9_9=>do
    let x19_17 ← value_reader_here c0_10
    M.ite (x19_17 != c2_12) (do
      M.ite (decide ((x9_9.len : Int) > 0)) (do
        thr (value_reader_must c0_10 (⟨#[44,32]⟩ : ByteArray)) fun x26_46=>do
          value_reader_list_j1 self1 c0_10 c1_11 c2_12 c3_13 x9_9
        ) (do
        value_reader_list_j1 self1 c0_10 c1_11 c2_12 c3_13 x9_9
        )
      ) (do
      let x57_48 ← nilP c0_10
      let x59_49 ← ldI .i64 ((x57_48).add 1)
      let x61_50 ← nilP c0_10
      stV ((x61_50).add 1) (.int .i64 (IntKind.wrap .i64 (x59_49 + 1)))
      M.pure (.inr x9_9)
      )
def value_reader_list (x0 : Option Addr) (x1 : Int) (x2 : Int) (x3 : Int) : M (Value ⊕ (Sl)):=do
  let x12_3 ← nilP x0
  let x14_4 ← ldI .i64 ((x12_3).add 1)
  let x16_5 ← nilP x0
  stV ((x16_5).add 1) (.int .i64 (IntKind.wrap .i64 (x14_4 + 1)))
  M.loop (value_reader_list_l1 x0 x1 x2 x3) Sl.nil
theorem S_value_reader_list (x0 : Option Addr) (x1 : Int) (x2 : Int) (x3 : Int) : SoundX Go.Proofs.Tryz.prog 176 #[.pointer x0,.int .i64 x1,.int .u8 x2,.int .i64 x3] (fun (r : Sl)=>(r : Sl).v) (value_reader_list x0 x1 x2 x3):=by
  refine sound_ofX [(0,.pointer x0),(1,.int .i64 x1),(2,.int .u8 x2),(3,.int .i64 x3)] Go.Proofs.Tryz.func176 rfl rfl (Nat.le_of_ble_eq_true rfl) (args_of ⟨rfl,rfl,rfl,rfl,trivial⟩) (fun w0 w Q R X a hret hthr hE hR H=>?_)
  unfold value_reader_list at H
  refine w_seq (fun K hK_1=>?_)
  refine t_region ?_
  refine t_val (v:=(Sl.nil : Sl).v) rfl rfl hE rfl (r_assign hE rfl) (fun a hE=>?_)
  refine t_nil ?_
  refine hK_1 _ _ ?_
  refine w_seq (fun K hK_2=>?_)
  refine t_region ?_
  refine t_val (v:=.pointer x0) rfl rfl hE rfl (r_move hE rfl) (fun a hE=>?_)
  obtain ⟨x12_3,qx12_3,H⟩:=H
  refine t_val (v:=.pointer (some x12_3)) rfl rfl hE rfl (r_nilCheck hE (hx_eq rfl (congrArg Value.pointer qx12_3))) (fun a hE=>?_)
  refine t_val (v:=.pointer (some ((x12_3).add 1))) rfl rfl hE rfl (r_fieldAddr hE rfl fd146_1) (fun a hE=>?_)
  obtain ⟨x14_4,qx14_4,H⟩:=H
  refine t_val (v:=.int .i64 x14_4) rfl rfl hE rfl (r_load hE rfl sc3 qx14_4) (fun a hE=>?_)
  refine t_val (v:=.int .i64 (IntKind.wrap .i64 (x14_4 + 1))) rfl rfl hE rfl (r_bin hE rfl rfl g_int b_add) (fun a hE=>?_)
  obtain ⟨x16_5,qx16_5,H⟩:=H
  refine t_val (v:=.pointer (some x16_5)) rfl rfl hE rfl (r_nilCheck hE (hx_eq rfl (congrArg Value.pointer qx16_5))) (fun a hE=>?_)
  refine t_val (v:=.pointer (some ((x16_5).add 1))) rfl rfl hE rfl (r_fieldAddr hE rfl fd146_1) (fun a hE=>?_)
  obtain ⟨u_6,qu_6,H⟩:=H
  refine t_sth rfl rfl hE hR (r_store hE rfl rfl sz3 qu_6) (fun a w hE hR hh=>?_)
  replace H:=M.at hh H; clear hh
  refine t_nil ?_
  refine hK_2 _ _ ?_
  refine w_seq (fun K hK_7=>?_)
  refine t_region ?_
  refine t_val (v:=(Sl.nil : Sl).v) rfl rfl hE rfl (r_assign hE rfl) (fun a hE=>?_)
  refine t_nil ?_
  refine hK_7 _ _ ?_
  refine w_seq (fun K hK_8=>?_)
  refine w_block ?_
  refine l_loop (fun (s : Sl)=>(⟨64,[]⟩ : Frm)) (fun (s : Sl)=>[(0,.pointer x0),(1,.int .i64 x1),(2,.int .u8 x2),(3,.int .i64 x3),(9,(s : Sl).v)]) H (hE.cut (.cons rfl (.cons rfl (.cons rfl (.cons rfl (.cons rfl Subs.nil)))))) hR (fun Y self1 hY_14 x9_9 a w hE hR H=>?_)
  replace hE : Env (⟨64,[]⟩ : Frm) a [(0,.pointer x0),(1,.int .i64 x1),(2,.int .u8 x2),(3,.int .i64 x3),(9,(x9_9 : Sl).v)]:=hE
  replace H : (value_reader_list_l1 x0 x1 x2 x3 self1 x9_9).wp w.heap Q:=H
  unfold value_reader_list_l1 at H
  refine w_seq (fun K hK_15=>?_)
  refine w_seq (fun K hK_16=>?_)
  refine t_region ?_
  refine t_val (v:=.pointer x0) rfl rfl hE rfl (r_move hE rfl) (fun a hE=>?_)
  refine t_call hE hR cl_value_reader_here rfl (S_value_reader_here x0) (M.unbind H) (fun x19_17 a w ea hR H=>?_)
  have hE:=Env.put_some hE rfl ea; clear ea
  refine t_val (v:=.int .u8 x2) rfl rfl hE rfl (r_move hE rfl) (fun a hE=>?_)
  refine t_val (v:=.bool (x19_17 != x2)) rfl rfl hE rfl (r_bin hE rfl rfl g_int b_neq) (fun a hE=>?_)
  refine t_nil ?_
  refine hK_16 _ _ ?_
  refine w_cond (x19_17 != x2) hE rfl (fun hb=>?_) (fun hb=>?_)
  · replace H:=M.ite_t hb H
    refine w_skip ?_
    refine hK_15 _ _ ?_
    refine w_block ?_
    refine w_seq_join (fun a w=>Env (⟨64,[]⟩ : Frm) a [(0,.pointer x0),(1,.int .i64 x1),(2,.int .u8 x2),(3,.int .i64 x3),(9,(x9_9 : Sl).v)] ∧ Rest w0 w ∧ (value_reader_list_j1 self1 x0 x1 x2 x3 x9_9).wp w.heap Q) ?_ ?_
    · rintro a w ⟨hE,hR,H⟩
      unfold value_reader_list_j1 at H
      refine w_seq (fun K hK_23=>?_)
      refine t_region ?_
      refine t_val (v:=(x9_9 : Sl).v) rfl rfl hE rfl (r_move hE rfl) (fun a hE=>?_)
      refine t_val (v:=.pointer x0) rfl rfl hE rfl (r_move hE rfl) (fun a hE=>?_)
      refine t_val (v:=.int .i64 x1) rfl rfl hE rfl (r_move hE rfl) (fun a hE=>?_)
      refine t_val (v:=.int .i64 (IntKind.wrap .i64 (x1 + 1))) rfl rfl hE rfl (r_bin hE rfl rfl g_int b_add) (fun a hE=>?_)
      refine t_callX hE hR cl_value_reader_value rfl (sound_callFX) H (fun _ _ hR HQ=>Xu.ne rfl (Xu.ne rfl (hthr _ _ hR HQ))) (fun x31_24 a w ea hR H=>?_)
      have hE:=Env.put_some hE rfl ea; clear ea
      obtain ⟨y_26,qy_26,H⟩:=H
      obtain ⟨x32_25,qx32_25,H⟩:=H
      refine t_valh (v:=(x32_25 : Sl).v) rfl rfl hE rfl hR (r_buildL hE rfl un22 sz24 zr24 rfl qy_26 qx32_25) (fun a w hE hR hh=>?_)
      replace H:=M.at hh H; clear hh
      refine t_ex (fun x33_27=>(x33_27 : Sl).v) rfl rfl hR (M.unbind H) (fun Q H=>ap_run hE rfl rfl ap22 H) (fun x33_27 a w ea hR H=>?_)
      have hE:=Env.put_some hE rfl ea; clear ea
      refine t_val (v:=(x33_27 : Sl).v) rfl rfl hE rfl (r_assign hE rfl) (fun a hE=>?_)
      refine t_nil ?_
      refine hK_23 _ _ ?_
      refine w_seq_join (fun a w=>∃ (x9_28 : Sl),Env (⟨64,[]⟩ : Frm) a [(0,.pointer x0),(1,.int .i64 x1),(2,.int .u8 x2),(3,.int .i64 x3),(9,(x9_28 : Sl).v)] ∧ Rest w0 w ∧ (value_reader_list_j2 self1 x0 x2 x9_28).wp w.heap Q) ?_ ?_
      · rintro a w ⟨x9_28,hE,hR,H⟩
        unfold value_reader_list_j2 at H
        refine w_seq (fun K hK_33=>?_)
        refine t_region ?_
        refine t_val (v:=.pointer x0) rfl rfl hE rfl (r_move hE rfl) (fun a hE=>?_)
        refine t_call hE hR cl_value_reader_here rfl (S_value_reader_here x0) (M.unbind H) (fun x46_34 a w ea hR H=>?_)
        have hE:=Env.put_some hE rfl ea; clear ea
        refine t_val (v:=.int .u8 x46_34) rfl rfl hE rfl (r_assign hE rfl) (fun a hE=>?_)
        refine t_nil ?_
        refine hK_33 _ _ ?_
        refine w_seq (fun K hK_35=>?_)
        refine t_region ?_
        refine t_val (v:=.int .u8 x46_34) rfl rfl hE rfl (r_move hE rfl) (fun a hE=>?_)
        refine t_val (v:=.int .u8 x2) rfl rfl hE rfl (r_move hE rfl) (fun a hE=>?_)
        refine t_val (v:=.bool (x46_34 != x2)) rfl rfl hE rfl (r_bin hE rfl rfl g_int b_neq) (fun a hE=>?_)
        refine t_val (v:=.bool (x46_34 != x2)) rfl rfl hE rfl (r_move hE rfl) (fun a hE=>?_)
        refine t_grp (n:=(⟨64,[]⟩ : Frm)) (w0:=w0) 3 (fun x53_36 : Bool=>[(0,.pointer x0),(1,.int .i64 x1),(2,.int .u8 x2),(3,.int .i64 x3),(9,(x9_28 : Sl).v),(53,.bool x53_36)]) (M.unbind H) (fun Kr hKr H=>?_) ?_
        · rcases bool_em (x46_34 != x2) with hb | hb
          · replace H:=M.ite_t hb H
            have hE:=hE.reb 50 (x46_34 != x2) true hb rfl
            refine t_on rfl hE rfl rfl rfl ?_
            refine t_val (v:=.int .u8 x46_34) rfl rfl hE rfl (r_move hE rfl) (fun a hE=>?_)
            refine t_on rfl hE rfl rfl rfl ?_
            refine t_val (v:=.bool (x46_34 != 44)) rfl rfl hE rfl (r_bin hE rfl rfl g_int b_neq) (fun a hE=>?_)
            refine t_val rfl rfl hE rfl (r_pick_t hE rfl rfl) (fun a hE=>?_)
            refine t_nil ?_
            exact hKr _ _ _ (hE.cut (.cons rfl (.cons rfl (.cons rfl (.cons rfl (.cons rfl (.cons rfl Subs.nil))))))) hR H
          · replace H:=M.ite_f hb H
            have hE:=hE.reb 50 (x46_34 != x2) false hb rfl
            refine t_off rfl hE rfl rfl rfl (fun a ea=>?_)
            have hE:=Env.put_some hE rfl ea; clear ea
            refine t_off rfl hE rfl rfl rfl (fun a ea=>?_)
            have hE:=Env.put_some hE rfl ea; clear ea
            refine t_val rfl rfl hE rfl (r_pick_f hE rfl rfl) (fun a hE=>?_)
            refine t_nil ?_
            exact hKr _ _ _ (hE.cut (.cons rfl (.cons rfl (.cons rfl (.cons rfl (.cons rfl (.cons rfl Subs.nil))))))) hR H
        · intro x53_36 a w hE hR H
          refine t_nil ?_
          refine hK_35 _ _ ?_
          refine w_cond x53_36 hE rfl (fun hb=>?_) (fun hb=>?_)
          · replace H:=M.ite_t hb H
            refine t_region ?_
            refine t_val (v:=.pointer x0) rfl rfl hE rfl (r_move hE rfl) (fun a hE=>?_)
            refine t_callX hE hR cl_value_reader_fail rfl (S_value_reader_fail x0) H (fun _ _ hR HQ=>Xu.ne rfl (Xu.ne rfl (hthr _ _ hR HQ))) (fun x55_37 a w ea hR H=>?_)
            have hE:=Env.put_some hE rfl ea; clear ea
            refine t_nil ?_
            exact hY_14 x9_28 _ _ (hE.cut (.cons rfl (.cons rfl (.cons rfl (.cons rfl (.cons rfl Subs.nil)))))) hR H
          · replace H:=M.ite_f hb H
            refine w_skip ?_
            exact hY_14 x9_28 _ _ (hE.cut (.cons rfl (.cons rfl (.cons rfl (.cons rfl (.cons rfl Subs.nil)))))) hR H
      · skip
        refine w_seq (fun K hK_38=>?_)
        refine t_region ?_
        refine t_val (v:=.int .i64 x3) rfl rfl hE rfl (r_move hE rfl) (fun a hE=>?_)
        refine t_val (v:=.bool (x3 == 2)) rfl rfl hE rfl (r_bin hE rfl rfl g_int b_eql) (fun a hE=>?_)
        refine t_nil ?_
        refine hK_38 _ _ ?_
        refine w_cond (x3 == 2) hE rfl (fun hb=>?_) (fun hb=>?_)
        · replace H:=M.ite_t hb H
          refine w_seq (fun K hK_39=>?_)
          refine t_region ?_
          refine t_val (v:=.pointer x0) rfl rfl hE rfl (r_move hE rfl) (fun a hE=>?_)
          refine t_callX hE hR cl_value_reader_must rfl (S_value_reader_must x0 (⟨#[58,32]⟩ : ByteArray)) H (fun _ _ hR HQ=>Xu.ne rfl (Xu.ne rfl (hthr _ _ hR HQ))) (fun x37_40 a w ea hR H=>?_)
          have hE:=Env.put_some hE rfl ea; clear ea
          refine t_nil ?_
          refine hK_39 _ _ ?_
          refine t_region ?_
          refine t_val (v:=(x33_27 : Sl).v) rfl rfl hE rfl (r_move hE rfl) (fun a hE=>?_)
          refine t_val (v:=.pointer x0) rfl rfl hE rfl (r_move hE rfl) (fun a hE=>?_)
          refine t_val (v:=.int .i64 x1) rfl rfl hE rfl (r_move hE rfl) (fun a hE=>?_)
          refine t_val (v:=.int .i64 (IntKind.wrap .i64 (x1 + 1))) rfl rfl hE rfl (r_bin hE rfl rfl g_int b_add) (fun a hE=>?_)
          refine t_callX hE hR cl_value_reader_value rfl (sound_callFX) H (fun _ _ hR HQ=>Xu.ne rfl (Xu.ne rfl (hthr _ _ hR HQ))) (fun x42_41 a w ea hR H=>?_)
          have hE:=Env.put_some hE rfl ea; clear ea
          obtain ⟨y_43,qy_43,H⟩:=H
          obtain ⟨x43_42,qx43_42,H⟩:=H
          refine t_valh (v:=(x43_42 : Sl).v) rfl rfl hE rfl hR (r_buildL hE rfl un22 sz24 zr24 rfl qy_43 qx43_42) (fun a w hE hR hh=>?_)
          replace H:=M.at hh H; clear hh
          refine t_ex (fun x44_44=>(x44_44 : Sl).v) rfl rfl hR (M.unbind H) (fun Q H=>ap_run hE rfl rfl ap22 H) (fun x44_44 a w ea hR H=>?_)
          have hE:=Env.put_some hE rfl ea; clear ea
          refine t_val (v:=(x44_44 : Sl).v) rfl rfl hE rfl (r_assign hE rfl) (fun a hE=>?_)
          refine t_nil ?_
          exact ⟨x44_44,hE.cut (.cons rfl (.cons rfl (.cons rfl (.cons rfl (.cons rfl Subs.nil))))),hR,H⟩
        · replace H:=M.ite_f hb H
          refine w_skip ?_
          exact ⟨x33_27,hE.cut (.cons rfl (.cons rfl (.cons rfl (.cons rfl (.cons rfl Subs.nil))))),hR,H⟩
    · skip
      refine w_seq (fun K hK_45=>?_)
      refine t_region ?_
      refine t_val (v:=(x9_9 : Sl).v) rfl rfl hE rfl (r_move hE rfl) (fun a hE=>?_)
      refine t_val (v:=.int .i64 (x9_9.len : Int)) rfl rfl hE rfl (r_len hE rfl 24 un22) (fun a hE=>?_)
      refine t_val (v:=.bool (decide ((x9_9.len : Int) > 0))) rfl rfl hE rfl (r_bin hE rfl rfl g_int b_gtr) (fun a hE=>?_)
      refine t_nil ?_
      refine hK_45 _ _ ?_
      refine w_cond (decide ((x9_9.len : Int) > 0)) hE rfl (fun hb=>?_) (fun hb=>?_)
      · replace H:=M.ite_t hb H
        refine t_region ?_
        refine t_val (v:=.pointer x0) rfl rfl hE rfl (r_move hE rfl) (fun a hE=>?_)
        refine t_callX hE hR cl_value_reader_must rfl (S_value_reader_must x0 (⟨#[44,32]⟩ : ByteArray)) H (fun _ _ hR HQ=>Xu.ne rfl (Xu.ne rfl (hthr _ _ hR HQ))) (fun x26_46 a w ea hR H=>?_)
        have hE:=Env.put_some hE rfl ea; clear ea
        refine t_nil ?_
        exact ⟨hE.cut (.cons rfl (.cons rfl (.cons rfl (.cons rfl (.cons rfl Subs.nil))))),hR,H⟩
      · replace H:=M.ite_f hb H
        refine w_skip ?_
        exact ⟨hE.cut (.cons rfl (.cons rfl (.cons rfl (.cons rfl (.cons rfl Subs.nil))))),hR,H⟩
  · replace H:=M.ite_f hb H
    refine w_exit ?_
    refine Xu.same ?_
    refine hK_8 _ _ ?_
    refine w_seq (fun K hK_47=>?_)
    refine t_region ?_
    refine t_val (v:=.pointer x0) rfl rfl hE rfl (r_move hE rfl) (fun a hE=>?_)
    obtain ⟨x57_48,qx57_48,H⟩:=H
    refine t_val (v:=.pointer (some x57_48)) rfl rfl hE rfl (r_nilCheck hE (hx_eq rfl (congrArg Value.pointer qx57_48))) (fun a hE=>?_)
    refine t_val (v:=.pointer (some ((x57_48).add 1))) rfl rfl hE rfl (r_fieldAddr hE rfl fd146_1) (fun a hE=>?_)
    obtain ⟨x59_49,qx59_49,H⟩:=H
    refine t_val (v:=.int .i64 x59_49) rfl rfl hE rfl (r_load hE rfl sc3 qx59_49) (fun a hE=>?_)
    refine t_val (v:=.int .i64 (IntKind.wrap .i64 (x59_49 + 1))) rfl rfl hE rfl (r_bin hE rfl rfl g_int b_add) (fun a hE=>?_)
    obtain ⟨x61_50,qx61_50,H⟩:=H
    refine t_val (v:=.pointer (some x61_50)) rfl rfl hE rfl (r_nilCheck hE (hx_eq rfl (congrArg Value.pointer qx61_50))) (fun a hE=>?_)
    refine t_val (v:=.pointer (some ((x61_50).add 1))) rfl rfl hE rfl (r_fieldAddr hE rfl fd146_1) (fun a hE=>?_)
    obtain ⟨u_51,qu_51,H⟩:=H
    refine t_sth rfl rfl hE hR (r_store hE rfl rfl sz3 qu_51) (fun a w hE hR hh=>?_)
    replace H:=M.at hh H; clear hh
    refine t_nil ?_
    refine hK_47 _ _ ?_
    refine w_seq (fun K hK_52=>?_)
    refine t_region ?_
    refine t_val (v:=(x9_9 : Sl).v) rfl rfl hE rfl (r_move hE rfl) (fun a hE=>?_)
    refine t_val (v:=(x9_9 : Sl).v) rfl rfl hE rfl (r_assign hE rfl) (fun a hE=>?_)
    refine t_nil ?_
    refine hK_52 _ _ ?_
    refine w_ret ?_
    exact hret _ _ _ x9_9 _ hE hR (res_run hE rfl (RV.tmp rfl RV.nil)) rfl H

def num_Parse_1 (x0 : Int) : M (Bool):=do
  let x8_3 ← M.ite (decide (x0 < 48)) (do
    M.pure true
    ) (do
    M.pure (decide (x0 > 57))
    )
  M.pure x8_3
theorem S_num_Parse_1 (x0 : Int) : Sound Go.Proofs.Tryz.prog 160 #[.int .u8 x0] (fun (r : Bool)=>.bool r) (num_Parse_1 x0):=by
  refine sound_of [(0,.int .u8 x0)] Go.Proofs.Tryz.func160 rfl rfl (Nat.le_of_ble_eq_true rfl) (args_of ⟨rfl,trivial⟩) (fun w0 w Q R a hret hE hR H=>?_)
  unfold num_Parse_1 at H
  refine w_seq (fun K hK_1=>?_)
  refine t_region ?_
  refine t_val (v:=.bool false) rfl rfl hE rfl (r_assign hE rfl) (fun a hE=>?_)
  refine t_nil ?_
  refine hK_1 _ _ ?_
  refine w_seq (fun K hK_2=>?_)
  refine t_region ?_
  refine t_val (v:=.int .u8 x0) rfl rfl hE rfl (r_move hE rfl) (fun a hE=>?_)
  refine t_val (v:=.bool (decide (x0 < 48))) rfl rfl hE rfl (r_bin hE rfl rfl g_int b_lss) (fun a hE=>?_)
  refine t_val (v:=.bool (decide (x0 < 48))) rfl rfl hE rfl (r_move hE rfl) (fun a hE=>?_)
  refine t_grp (n:=(⟨9,[]⟩ : Frm)) (w0:=w0) 3 (fun x8_3 : Bool=>[(2,.bool false),(8,.bool x8_3)]) (M.unbind H) (fun Kr hKr H=>?_) ?_
  · rcases bool_em (decide (x0 < 48)) with hb | hb
    · replace H:=M.ite_t hb H
      have hE:=hE.reb 5 (decide (x0 < 48)) true hb rfl
      refine t_off rfl hE rfl rfl rfl (fun a ea=>?_)
      have hE:=Env.put_some hE rfl ea; clear ea
      refine t_off rfl hE rfl rfl rfl (fun a ea=>?_)
      have hE:=Env.put_some hE rfl ea; clear ea
      refine t_val rfl rfl hE rfl (r_pick_t hE rfl rfl) (fun a hE=>?_)
      refine t_nil ?_
      exact hKr _ _ _ (hE.cut (.cons rfl (.cons rfl Subs.nil))) hR H
    · replace H:=M.ite_f hb H
      have hE:=hE.reb 5 (decide (x0 < 48)) false hb rfl
      refine t_on rfl hE rfl rfl rfl ?_
      refine t_val (v:=.int .u8 x0) rfl rfl hE rfl (r_move hE rfl) (fun a hE=>?_)
      refine t_on rfl hE rfl rfl rfl ?_
      refine t_val (v:=.bool (decide (x0 > 57))) rfl rfl hE rfl (r_bin hE rfl rfl g_int b_gtr) (fun a hE=>?_)
      refine t_val rfl rfl hE rfl (r_pick_f hE rfl rfl) (fun a hE=>?_)
      refine t_nil ?_
      exact hKr _ _ _ (hE.cut (.cons rfl (.cons rfl Subs.nil))) hR H
  · intro x8_3 a w hE hR H
    refine t_val (v:=.bool x8_3) rfl rfl hE rfl (r_assign hE rfl) (fun a hE=>?_)
    refine t_nil ?_
    refine hK_2 _ _ ?_
    refine w_ret ?_
    exact hret _ _ _ x8_3 _ hE hR (res_run hE rfl (RV.tmp rfl RV.nil)) rfl H

end Gx
