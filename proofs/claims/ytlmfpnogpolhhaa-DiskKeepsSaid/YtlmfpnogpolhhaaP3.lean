/- Printed by program: Go functions as Lean programs, each tied to its code. No condition. -/
import Derived.Test.YtlmfpnogpolhhaaP0
import Derived.Test.YtlmfpnogpolhhaaP1
import Derived.Test.YtlmfpnogpolhhaaP2
set_option linter.unusedVariables false
set_option linter.unusedSimpArgs false
namespace Gx
open Go
set_option linter.unusedVariables false
set_option maxRecDepth 100000
/-- ramble/ramblelaw04.DiskKeeps -/
def ramblelaw04_DiskKeeps_j1 (self1 : (Int) → M (Bool)) (c40_35 : Int) : M (Bool) := do
  self1 (IntKind.wrap .i64 (c40_35 + 1))
theorem tb5_8 : tabAt Go.Proofs.Try.f5 8 [[], [], [1], [], [3], [4], [0, 2, 5, 5], [6]] [[], [], [1], [], [3], [4], [0, 2, 5], [6]] [[], [], [1], [], [3], [3, 4], [0, 1, 2, 3, 4, 5], [0, 1, 2, 3, 4, 5, 6]] = true := by kernel_rfl
theorem tb5_9 : tabAt Go.Proofs.Try.f5 9 [[], [0], [], [2], [3], [1, 0, 1, 2, 3, 4], [5, 4, 4, 0, 1, 2, 3, 4]] [[], [0], [], [2], [3], [1], [4, 5]] [[], [0], [], [2], [2, 3], [0, 1, 2, 3, 4], [0, 1, 2, 3, 4, 5]] = true := by kernel_rfl
def ramblelaw04_DiskKeeps_j2 (self2 : (Int) → M (Bool)) (c65_78 : Int) : M (Bool) := do
  self2 (IntKind.wrap .i64 (c65_78 + 1))
theorem tb5_17 : tabAt Go.Proofs.Try.f5 17 [[], [], [1], [], [3], [4], [0, 2, 5, 5], [6]] [[], [], [1], [], [3], [4], [0, 2, 5], [6]] [[], [], [1], [], [3], [3, 4], [0, 1, 2, 3, 4, 5], [0, 1, 2, 3, 4, 5, 6]] = true := by kernel_rfl
theorem tb5_18 : tabAt Go.Proofs.Try.f5 18 [[], [0], [], [2], [3], [1, 0, 1, 2, 3, 4], [5, 4, 4, 0, 1, 2, 3, 4]] [[], [0], [], [2], [3], [1], [4, 5]] [[], [0], [], [2], [2, 3], [0, 1, 2, 3, 4], [0, 1, 2, 3, 4, 5]] = true := by kernel_rfl
def ramblelaw04_DiskKeeps_j3 (self3 : (Int × Int) → M (Bool)) (c96_119 : Int) (x18_114 : Int) : M (Bool) := do
  self3 (x18_114, IntKind.wrap .i64 (c96_119 + 1))
def ramblelaw04_DiskKeeps_j4 (self3 : (Int × Int) → M (Bool)) (c18_144 : Int) (c96_145 : Int) (x137_139 : Bool) : M (Bool) := do
  M.ite x137_139 (do
    M.pure false
    ) (do
    ramblelaw04_DiskKeeps_j3 self3 c96_145 c18_144
    )
theorem tb5_33 : tabAt Go.Proofs.Try.f5 33 [[], [], [1], [2], [0, 3], [4], [5], [6, 5], [5, 7]] [[], [], [1], [2], [0, 3], [4], [5], [5, 6], [5, 7]] [[], [], [1], [1, 2], [0, 1, 2, 3], [0, 1, 2, 3, 4], [0, 1, 2, 3, 4, 5], [0, 1, 2, 3, 4, 5, 6], [0, 1, 2, 3, 4, 5, 6, 7]] = true := by kernel_rfl
def ramblelaw04_DiskKeeps_j5 (self3 : (Int × Int) → M (Bool)) (c18_157 : Int) (c96_158 : Int) (x138_152 : Bool) : M (Bool) := do
  M.ite x138_152 (do
    M.pure false
    ) (do
    ramblelaw04_DiskKeeps_j3 self3 c96_158 c18_157
    )
noncomputable def ro5_35 : Array Oper := opsOf Go.Proofs.Try.f5 35
def tE5_35 : List (List Nat) := [[], [0], [1], [2], [2], [4, 2], [5, 2], [3, 6, 2], [7, 2, 2], [8], [8], [10, 8], [11, 8], [9, 12, 8], [8, 13, 2], [2, 14], [15, 8], [16], [16], [17, 18, 16, 16], [19, 16], [20, 19, 16], [21], [21], [23, 21], [24, 21], [22, 25, 21], [21, 26, 16], [16, 27], [28, 21]]
def tC5_35 : List (List Nat) := [[], [0], [1], [2], [2], [2, 4], [2, 5], [2, 3, 6], [2, 7], [8], [8], [8, 10], [8, 11], [8, 9, 12], [2, 8, 13], [2, 14], [15], [16], [16], [16, 17, 18], [16, 19], [16, 20], [21], [21], [21, 23], [21, 24], [21, 22, 25], [16, 21, 26], [16, 27], [28]]
def tW5_35 : List (List Nat) := [[], [0], [0, 1], [0, 1, 2], [0, 1, 2], [0, 1, 2, 4], [0, 1, 2, 4, 5], [0, 1, 2, 3, 4, 5, 6], [0, 1, 2, 3, 4, 5, 6, 7], [0, 1, 2, 3, 4, 5, 6, 7, 8], [0, 1, 2, 3, 4, 5, 6, 7, 8], [0, 1, 2, 3, 4, 5, 6, 7, 8, 10], [0, 1, 2, 3, 4, 5, 6, 7, 8, 10, 11], [0, 1, 2, 3, 4, 5, 6, 7, 8, 9, 10, 11, 12], [0, 1, 2, 3, 4, 5, 6, 7, 8, 9, 10, 11, 12, 13], [0, 1, 2, 3, 4, 5, 6, 7, 8, 9, 10, 11, 12, 13, 14], [0, 1, 2, 3, 4, 5, 6, 7, 8, 9, 10, 11, 12, 13, 14, 15], [0, 1, 2, 3, 4, 5, 6, 7, 8, 9, 10, 11, 12, 13, 14, 15, 16], [0, 1, 2, 3, 4, 5, 6, 7, 8, 9, 10, 11, 12, 13, 14, 15, 16], [0, 1, 2, 3, 4, 5, 6, 7, 8, 9, 10, 11, 12, 13, 14, 15, 16, 17, 18], [0, 1, 2, 3, 4, 5, 6, 7, 8, 9, 10, 11, 12, 13, 14, 15, 16, 17, 18, 19], [0, 1, 2, 3, 4, 5, 6, 7, 8, 9, 10, 11, 12, 13, 14, 15, 16, 17, 18, 19, 20], [0, 1, 2, 3, 4, 5, 6, 7, 8, 9, 10, 11, 12, 13, 14, 15, 16, 17, 18, 19, 20, 21], [0, 1, 2, 3, 4, 5, 6, 7, 8, 9, 10, 11, 12, 13, 14, 15, 16, 17, 18, 19, 20, 21], [0, 1, 2, 3, 4, 5, 6, 7, 8, 9, 10, 11, 12, 13, 14, 15, 16, 17, 18, 19, 20, 21, 23], [0, 1, 2, 3, 4, 5, 6, 7, 8, 9, 10, 11, 12, 13, 14, 15, 16, 17, 18, 19, 20, 21, 23, 24], [0, 1, 2, 3, 4, 5, 6, 7, 8, 9, 10, 11, 12, 13, 14, 15, 16, 17, 18, 19, 20, 21, 22, 23, 24, 25], [0, 1, 2, 3, 4, 5, 6, 7, 8, 9, 10, 11, 12, 13, 14, 15, 16, 17, 18, 19, 20, 21, 22, 23, 24, 25, 26], [0, 1, 2, 3, 4, 5, 6, 7, 8, 9, 10, 11, 12, 13, 14, 15, 16, 17, 18, 19, 20, 21, 22, 23, 24, 25, 26, 27], [0, 1, 2, 3, 4, 5, 6, 7, 8, 9, 10, 11, 12, 13, 14, 15, 16, 17, 18, 19, 20, 21, 22, 23, 24, 25, 26, 27, 28]]
theorem tb5_35 : tabAt Go.Proofs.Try.f5 35 tE5_35 tC5_35 tW5_35 = true := by kernel_rfl
theorem tb5_35m : tabMB 30 tE5_35 tC5_35 tW5_35 [0, 1, 2, 4, 4, 20, 36, 76, 132, 256, 256, 1280, 2304, 4864, 8452, 16388, 33024, 65536, 65536, 458752, 589824, 1638400, 2097152, 2097152, 10485760, 18874368, 39845888, 69271552, 134283264, 270532608] [0, 1, 2, 4, 4, 20, 36, 76, 132, 256, 256, 1280, 2304, 4864, 8452, 16388, 32768, 65536, 65536, 458752, 589824, 1114112, 2097152, 2097152, 10485760, 18874368, 39845888, 69271552, 134283264, 268435456] [0, 1, 3, 7, 7, 23, 55, 127, 255, 511, 511, 1535, 3583, 8191, 16383, 32767, 65535, 131071, 131071, 524287, 1048575, 2097151, 4194303, 4194303, 12582911, 29360127, 67108863, 134217727, 268435455, 536870911] = true := by kernel_rfl
def ramblelaw04_DiskKeeps_l3 (c9_107 : Option Addr) (c11_108 : Addr) (c12_109 : Addr) (c17_110 : Sl) (self3 : (Int × Int) → M (Bool)) : (Int × Int) → M (Bool) := fun s => match s with
  | (x18_105, x96_106) => do
    M.ite (decide (x96_106 < 8)) (do
      let x102_122 ← disk_Disk_Read c9_107 x96_106
      let x20_123 ← mkB ty_api_Sector (Array.replicate 128 (.int .u8 0) : Array Value)
      M.need (x102_122.1.size = 128)
      stG x20_123 x102_122.1
      M.ite (x102_122.2 == 40) (do
        let x112_129 ← slices_Contains_slint_int c17_110 x96_106
        let x122_130 ← M.ite (!x112_129) (do
          M.pure true
          ) (do
          let x118_131 ← ixA c12_109 8 x96_106 128
          let x119_132 ← ldG 128 x118_131
          let x120_133 ← disk_Disk_Write c9_107 x96_106 x119_132
          M.pure (x120_133 != 0)
          )
        M.ite x122_130 (do
          M.pure false
          ) (do
          let x126_136 ← disk_Disk_Read c9_107 x96_106
          let x22_137 ← mkB ty_api_Sector (Array.replicate 128 (.int .u8 0) : Array Value)
          M.need (x126_136.1.size = 128)
          stG x22_137 x126_136.1
          let x131_147 ← ixA c12_109 8 x96_106 128
          let x129_148 ← ldG 128 x22_137
          let x132_149 ← ldG 128 x131_147
          let x133_150 ← eqA .u8 128 x129_148 x132_149
          M.ite (!x133_150) (do
            ramblelaw04_DiskKeeps_j4 self3 (IntKind.wrap .i64 (x18_105 + 1)) x96_106 true
            ) (do
            ramblelaw04_DiskKeeps_j4 self3 (IntKind.wrap .i64 (x18_105 + 1)) x96_106 (x126_136.2 != 0)
            )
          )
        ) (do
        M.ite (x102_122.2 != 0) (do
          ramblelaw04_DiskKeeps_j5 self3 x18_105 x96_106 true
          ) (do
          let x144_161 ← ixA c11_108 8 x96_106 128
          let x142_162 ← ldG 128 x20_123
          let x145_163 ← ldG 128 x144_161
          let x146_164 ← eqA .u8 128 x142_162 x145_163
          M.ite (!x146_164) (do
            let x150_166 ← ixA c12_109 8 x96_106 128
            let x148_167 ← ldG 128 x20_123
            let x151_168 ← ldG 128 x150_166
            let x152_169 ← eqA .u8 128 x148_167 x151_168
            M.ite (!x152_169) (do
              ramblelaw04_DiskKeeps_j5 self3 x18_105 x96_106 true
              ) (do
              let x158_171 ← slices_Contains_slint_int c17_110 x96_106
              M.ite (!x158_171) (do
                let x163_173 ← ixA c11_108 8 x96_106 128
                let x161_174 ← ldG 128 x20_123
                let x164_175 ← ldG 128 x163_173
                let x165_176 ← eqA .u8 128 x161_174 x164_175
                ramblelaw04_DiskKeeps_j5 self3 x18_105 x96_106 (!x165_176)
                ) (do
                ramblelaw04_DiskKeeps_j5 self3 x18_105 x96_106 false
                )
              )
            ) (do
            let x158_177 ← slices_Contains_slint_int c17_110 x96_106
            M.ite (!x158_177) (do
              let x163_179 ← ixA c11_108 8 x96_106 128
              let x161_180 ← ldG 128 x20_123
              let x164_181 ← ldG 128 x163_179
              let x165_182 ← eqA .u8 128 x161_180 x164_181
              ramblelaw04_DiskKeeps_j5 self3 x18_105 x96_106 (!x165_182)
              ) (do
              ramblelaw04_DiskKeeps_j5 self3 x18_105 x96_106 false
              )
            )
          )
        )
      ) (do
      M.pure (decide (x18_105 ≤ 1))
      )
def ramblelaw04_DiskKeeps_l2 (c2_61 : Int) (c3_62 : Sl) (c9_63 : Option Addr) (c11_64 : Addr) (c12_65 : Addr) (c63_66 : Sl) (c64_67 : Int) (self2 : (Int) → M (Bool)) : (Int) → M (Bool) := fun s => match s with
  | x65_60 => do
    M.ite (decide (x65_60 < c64_67)) (do
      let x67_80 ← ixL c63_66 x65_60 6
      let x68_81 ← ldG 6 x67_80
      let x16_82 ← mkB ty_ramblelaw04_Op (#[.int .i64 0, .int .i64 0, .int .u8 0, .slice none 0 0, .int .i64 0, .int .u32 0] : Array Value)
      M.need (x68_81.size = 6)
      stG x16_82 x68_81
      let x71_85 ← ldI .i64 ((x16_82).add 1)
      let x73_86 ← ldI .u8 ((x16_82).add 2)
      let x74_87 ← ramblelaw04_filled x73_86
      chk (fun h : Heap => (hcell h ((x16_82).add 1) = some (.int .i64 x71_85)) ∧ (hcell h ((x16_82).add 2) = some (.int .u8 x73_86)))
      let x75_88 ← disk_Disk_Write c9_63 x71_85 x74_87
      M.ite (x75_88 == 0) (do
        let x78_89 ← ldI .i64 ((x16_82).add 1)
        let x80_90 ← ldI .u8 ((x16_82).add 2)
        let x81_91 ← ramblelaw04_filled x80_90
        chk (fun h : Heap => (hcell h ((x16_82).add 1) = some (.int .i64 x78_89)) ∧ (hcell h ((x16_82).add 2) = some (.int .u8 x80_90)))
        let x82_92 ← ixA c12_65 8 x78_89 128
        M.need (x81_91.size = 128)
        stG x82_92 x81_91
        ramblelaw04_DiskKeeps_j2 self2 x65_60
        ) (do
        ramblelaw04_DiskKeeps_j2 self2 x65_60
        )
      ) (do
      let x85_95 ← disk_Disk_Dirty c9_63
      let x89_98 ← disk_Disk_Crash c9_63 c2_61 c3_62
      let x95_99 ← M.ite (x89_98 != 0) (do
        M.pure true
        ) (do
        let x93_100 ← disk_Disk_Start c9_63 0 Sl.nil
        M.pure (x93_100 != 0)
        )
      M.ite x95_99 (do
        M.pure false
        ) (do
        M.loop (ramblelaw04_DiskKeeps_l3 c9_63 c11_64 c12_65 x85_95) (0, 0)
        )
      )
def ramblelaw04_DiskKeeps_l1 (c1_16 : Sl) (c2_17 : Int) (c3_18 : Sl) (c9_19 : Option Addr) (c11_20 : Addr) (c12_21 : Addr) (c38_22 : Sl) (c39_23 : Int) (self1 : (Int) → M (Bool)) : (Int) → M (Bool) := fun s => match s with
  | x40_15 => do
    M.ite (decide (x40_15 < c39_23)) (do
      let x42_37 ← ixL c38_22 x40_15 6
      let x43_38 ← ldG 6 x42_37
      let x14_39 ← mkB ty_ramblelaw04_Op (#[.int .i64 0, .int .i64 0, .int .u8 0, .slice none 0 0, .int .i64 0, .int .u32 0] : Array Value)
      M.need (x43_38.size = 6)
      stG x14_39 x43_38
      let x46_42 ← ldI .i64 ((x14_39).add 1)
      let x48_43 ← ldI .u8 ((x14_39).add 2)
      let x49_44 ← ramblelaw04_filled x48_43
      chk (fun h : Heap => (hcell h ((x14_39).add 1) = some (.int .i64 x46_42)) ∧ (hcell h ((x14_39).add 2) = some (.int .u8 x48_43)))
      let x50_45 ← disk_Disk_Write c9_19 x46_42 x49_44
      M.ite (x50_45 == 0) (do
        let x53_46 ← ldI .i64 ((x14_39).add 1)
        let x55_47 ← ldI .u8 ((x14_39).add 2)
        let x56_48 ← ramblelaw04_filled x55_47
        chk (fun h : Heap => (hcell h ((x14_39).add 1) = some (.int .i64 x53_46)) ∧ (hcell h ((x14_39).add 2) = some (.int .u8 x55_47)))
        let x57_49 ← ixA c11_20 8 x53_46 128
        M.need (x56_48.size = 128)
        stG x57_49 x56_48
        ramblelaw04_DiskKeeps_j1 self1 x40_15
        ) (do
        ramblelaw04_DiskKeeps_j1 self1 x40_15
        )
      ) (do
      let x60_53 ← disk_Disk_Flush c9_19
      M.ite (x60_53 != 0) (do
        M.pure false
        ) (do
        let x62_56 ← ldG 1024 c11_20
        M.need (x62_56.size = 1024)
        stG c12_21 x62_56
        M.loop (ramblelaw04_DiskKeeps_l2 c2_17 c3_18 c9_19 c11_20 c12_21 c1_16 (c1_16.len : Int)) 0
        )
      )
def ramblelaw04_DiskKeeps (x0 : Sl) (x1 : Sl) (x2 : Int) (x3 : Sl) : M (Bool) := do
  let x25_3 ← disk_New 8
  let x28_6 ← ramblelaw04_begun
  let x33_7 ← M.ite (!x28_6) (do
    M.pure true
    ) (do
    M.pure ((x25_3.1).isNone)
    )
  let x37_8 ← M.ite x33_7 (do
    M.pure true
    ) (do
    M.pure (x25_3.2 != 0)
    )
  M.ite x37_8 (do
    M.pure false
    ) (do
    let x11_11 ← mkB ty_8_api_Sector (Array.replicate 1024 (.int .u8 0) : Array Value)
    let x12_12 ← mkB ty_8_api_Sector (Array.replicate 1024 (.int .u8 0) : Array Value)
    M.loop (ramblelaw04_DiskKeeps_l1 x1 x2 x3 x25_3.1 x11_11 x12_12 x0 (x0.len : Int)) 0
    )
theorem S_ramblelaw04_DiskKeeps (x0 : Sl) (x1 : Sl) (x2 : Int) (x3 : Sl) : Sound Go.Proofs.Try.prog 5 #[(x0 : Sl).v, (x1 : Sl).v, .int .i64 x2, (x3 : Sl).v] (fun (r : Bool) => .bool r) (ramblelaw04_DiskKeeps x0 x1 x2 x3) := by
  refine sound_of [(0, (x0 : Sl).v), (1, (x1 : Sl).v), (2, .int .i64 x2), (3, (x3 : Sl).v)] Go.Proofs.Try.func5 rfl rfl (Nat.le_of_ble_eq_true rfl) (args_of ⟨rfl, rfl, rfl, rfl, trivial⟩) (fun w0 w Q R a hret hE hR H => ?_)
  unfold ramblelaw04_DiskKeeps at H
  refine w_seq (fun K hK_1 => ?_)
  refine t_region ?_
  refine t_val (v := .bool false) rfl rfl hE rfl (r_assign hE rfl) (fun a hE => ?_)
  refine t_nil ?_
  refine hK_1 _ _ ?_
  refine w_seq (fun K hK_2 => ?_)
  refine t_region ?_
  refine t_call hE hR cl_disk_New rfl (S_disk_New 8) (M.unbind H) (fun x25_3 a w ea hR H => ?_)
  have hE := Env.put_some hE rfl ea; clear ea
  refine t_val (v := .tuple #[.pointer x25_3.1, .int .i64 x25_3.2]) rfl rfl hE rfl (r_move hE rfl) (fun a hE => ?_)
  refine t_val (v := .pointer x25_3.1) rfl rfl hE rfl (r_extract hE rfl rfl) (fun a hE => ?_)
  refine t_val (v := .int .i64 x25_3.2) rfl rfl hE rfl (r_extract hE rfl rfl) (fun a hE => ?_)
  refine t_val (v := .pointer x25_3.1) rfl rfl hE rfl (r_assign hE rfl) (fun a hE => ?_)
  refine t_val (v := .int .i64 x25_3.2) rfl rfl hE rfl (r_assign hE rfl) (fun a hE => ?_)
  refine t_nil ?_
  refine hK_2 _ _ ?_
  refine w_seq (fun K hK_4 => ?_)
  refine w_seq (fun K hK_5 => ?_)
  refine t_region ?_
  refine t_call hE hR cl_ramblelaw04_begun rfl (S_ramblelaw04_begun ) (M.unbind H) (fun x28_6 a w ea hR H => ?_)
  have hE := Env.put_some hE rfl ea; clear ea
  refine t_val (v := .bool (!x28_6)) rfl rfl hE rfl (r_un hE rfl u_not) (fun a hE => ?_)
  refine t_val (v := .bool (!x28_6)) rfl rfl hE rfl (r_move hE rfl) (fun a hE => ?_)
  refine t_grp (n := (⟨171, []⟩ : Frm)) (w0 := w0) 3 (fun x33_7 : Bool => [(0, (x0 : Sl).v), (1, (x1 : Sl).v), (2, .int .i64 x2), (3, (x3 : Sl).v), (9, .pointer x25_3.1), (10, .int .i64 x25_3.2), (33, .bool x33_7)]) (M.unbind H) (fun Kr hKr H => ?_) ?_
  · rcases bool_em (!x28_6) with hb | hb
    · replace H := M.ite_t hb H
      have hE := hE.reb 30 (!x28_6) true hb rfl
      refine t_off rfl hE rfl rfl rfl (fun a ea => ?_)
      have hE := Env.put_some hE rfl ea; clear ea
      refine t_off rfl hE rfl rfl rfl (fun a ea => ?_)
      have hE := Env.put_some hE rfl ea; clear ea
      refine t_val rfl rfl hE rfl (r_pick_t hE rfl rfl) (fun a hE => ?_)
      refine t_nil ?_
      exact hKr _ _ _ (hE.cut (.cons rfl (.cons rfl (.cons rfl (.cons rfl (.cons rfl (.cons rfl (.cons rfl Subs.nil)))))))) hR H
    · replace H := M.ite_f hb H
      have hE := hE.reb 30 (!x28_6) false hb rfl
      refine t_on rfl hE rfl rfl rfl ?_
      refine t_val (v := .pointer x25_3.1) rfl rfl hE rfl (r_move hE rfl) (fun a hE => ?_)
      refine t_on rfl hE rfl rfl rfl ?_
      refine t_val (v := .bool ((x25_3.1).isNone)) rfl rfl hE rfl (r_bin hE rfl rfl g_ptr (b_eqlP un23)) (fun a hE => ?_)
      refine t_val rfl rfl hE rfl (r_pick_f hE rfl rfl) (fun a hE => ?_)
      refine t_nil ?_
      exact hKr _ _ _ (hE.cut (.cons rfl (.cons rfl (.cons rfl (.cons rfl (.cons rfl (.cons rfl (.cons rfl Subs.nil)))))))) hR H
  · intro x33_7 a w hE hR H
    refine t_val (v := .bool x33_7) rfl rfl hE rfl (r_move hE rfl) (fun a hE => ?_)
    refine t_grp (n := (⟨171, []⟩ : Frm)) (w0 := w0) 3 (fun x37_8 : Bool => [(0, (x0 : Sl).v), (1, (x1 : Sl).v), (2, .int .i64 x2), (3, (x3 : Sl).v), (9, .pointer x25_3.1), (37, .bool x37_8)]) (M.unbind H) (fun Kr hKr H => ?_) ?_
    · rcases bool_em x33_7 with hb | hb
      · replace H := M.ite_t hb H
        have hE := hE.reb 34 x33_7 true hb rfl
        refine t_off rfl hE rfl rfl rfl (fun a ea => ?_)
        have hE := Env.put_some hE rfl ea; clear ea
        refine t_off rfl hE rfl rfl rfl (fun a ea => ?_)
        have hE := Env.put_some hE rfl ea; clear ea
        refine t_val rfl rfl hE rfl (r_pick_t hE rfl rfl) (fun a hE => ?_)
        refine t_nil ?_
        exact hKr _ _ _ (hE.cut (.cons rfl (.cons rfl (.cons rfl (.cons rfl (.cons rfl (.cons rfl Subs.nil))))))) hR H
      · replace H := M.ite_f hb H
        have hE := hE.reb 34 x33_7 false hb rfl
        refine t_on rfl hE rfl rfl rfl ?_
        refine t_val (v := .int .i64 x25_3.2) rfl rfl hE rfl (r_move hE rfl) (fun a hE => ?_)
        refine t_on rfl hE rfl rfl rfl ?_
        refine t_val (v := .bool (x25_3.2 != 0)) rfl rfl hE rfl (r_bin hE rfl rfl g_int b_neq) (fun a hE => ?_)
        refine t_val rfl rfl hE rfl (r_pick_f hE rfl rfl) (fun a hE => ?_)
        refine t_nil ?_
        exact hKr _ _ _ (hE.cut (.cons rfl (.cons rfl (.cons rfl (.cons rfl (.cons rfl (.cons rfl Subs.nil))))))) hR H
    · intro x37_8 a w hE hR H
      refine t_nil ?_
      refine hK_5 _ _ ?_
      refine w_cond x37_8 hE rfl (fun hb => ?_) (fun hb => ?_)
      · replace H := M.ite_t hb H
        refine w_seq (fun K hK_9 => ?_)
        refine t_region ?_
        refine t_val (v := .bool false) rfl rfl hE rfl (r_assign hE rfl) (fun a hE => ?_)
        refine t_nil ?_
        refine hK_9 _ _ ?_
        refine w_ret ?_
        exact hret _ _ _ false _ hE hR (res_run hE rfl (RV.tmp rfl RV.nil)) rfl H
      · replace H := M.ite_f hb H
        refine w_skip ?_
        refine hK_4 _ _ ?_
        refine w_seq (fun K hK_10 => ?_)
        refine t_region ?_
        obtain ⟨x11_11, qx11_11, H⟩ := H
        refine t_valh (v := .pointer (some x11_11)) rfl rfl hE rfl hR (r_alloc zr48 qx11_11) (fun a w hE hR hh => ?_)
        replace H := M.at hh H; clear hh
        obtain ⟨x12_12, qx12_12, H⟩ := H
        refine t_valh (v := .pointer (some x12_12)) rfl rfl hE rfl hR (r_alloc zr48 qx12_12) (fun a w hE hR hh => ?_)
        replace H := M.at hh H; clear hh
        refine t_nil ?_
        refine hK_10 _ _ ?_
        refine w_seq (fun K hK_13 => ?_)
        refine w_seq (fun K hK_14 => ?_)
        refine t_region ?_
        refine t_val (v := (x0 : Sl).v) rfl rfl hE rfl (r_move hE rfl) (fun a hE => ?_)
        refine t_val (v := .int .i64 (x0.len : Int)) rfl rfl hE rfl (r_len hE rfl 51 un44) (fun a hE => ?_)
        refine t_val (v := .int .i64 0) rfl rfl hE rfl (r_move hE rfl) (fun a hE => ?_)
        refine t_nil ?_
        refine hK_14 _ _ ?_
        refine w_block ?_
        refine l_loop (fun (s : Int) => (⟨171, []⟩ : Frm)) (fun (s : Int) => [(1, (x1 : Sl).v), (2, .int .i64 x2), (3, (x3 : Sl).v), (9, .pointer x25_3.1), (11, .pointer (some x11_11)), (12, .pointer (some x12_12)), (38, (x0 : Sl).v), (39, .int .i64 (x0.len : Int)), (40, .int .i64 s)]) H (hE.cut (.cons rfl (.cons rfl (.cons rfl (.cons rfl (.cons rfl (.cons rfl (.cons rfl (.cons rfl (.cons rfl Subs.nil)))))))))) hR (fun Y self1 hY_24 x40_15 a w hE hR H => ?_)
        replace hE : Env (⟨171, []⟩ : Frm) a [(1, (x1 : Sl).v), (2, .int .i64 x2), (3, (x3 : Sl).v), (9, .pointer x25_3.1), (11, .pointer (some x11_11)), (12, .pointer (some x12_12)), (38, (x0 : Sl).v), (39, .int .i64 (x0.len : Int)), (40, .int .i64 x40_15)] := hE
        replace H : (ramblelaw04_DiskKeeps_l1 x1 x2 x3 x25_3.1 x11_11 x12_12 x0 (x0.len : Int) self1 x40_15).wp w.heap Q := H
        unfold ramblelaw04_DiskKeeps_l1 at H
        refine w_seq (fun K hK_25 => ?_)
        refine t_region ?_
        refine t_val (v := .bool (decide (x40_15 < (x0.len : Int)))) rfl rfl hE rfl (r_bin hE rfl rfl g_int b_lss) (fun a hE => ?_)
        refine t_nil ?_
        refine hK_25 _ _ ?_
        refine w_seq (fun K hK_26 => ?_)
        refine w_cond (decide (x40_15 < (x0.len : Int))) hE rfl (fun hb => ?_) (fun hb => ?_)
        · replace H := M.ite_t hb H
          refine w_skip ?_
          refine hK_26 _ _ ?_
          refine w_seq_join (fun a w => Env (⟨171, []⟩ : Frm) a [(1, (x1 : Sl).v), (2, .int .i64 x2), (3, (x3 : Sl).v), (9, .pointer x25_3.1), (11, .pointer (some x11_11)), (12, .pointer (some x12_12)), (38, (x0 : Sl).v), (39, .int .i64 (x0.len : Int)), (40, .int .i64 x40_15)] ∧ Rest w0 w ∧ (ramblelaw04_DiskKeeps_j1 self1 x40_15).wp w.heap Q) ?_ ?_
          · rintro a w ⟨hE, hR, H⟩
            unfold ramblelaw04_DiskKeeps_j1 at H
            refine t_region ?_
            refine t_val (v := .int .i64 (IntKind.wrap .i64 (x40_15 + 1))) rfl rfl hE rfl (r_bin hE rfl rfl g_int b_add) (fun a hE => ?_)
            refine t_val (v := .int .i64 (IntKind.wrap .i64 (x40_15 + 1))) rfl rfl hE rfl (r_move hE rfl) (fun a hE => ?_)
            refine t_nil ?_
            exact hY_24 (IntKind.wrap .i64 (x40_15 + 1)) _ _ (hE.cut (.cons rfl (.cons rfl (.cons rfl (.cons rfl (.cons rfl (.cons rfl (.cons rfl (.cons rfl (.cons rfl Subs.nil)))))))))) hR H
          · skip
            refine w_block ?_
            refine w_seq (fun K hK_36 => ?_)
            refine t_region ?_
            obtain ⟨x42_37, qx42_37, H⟩ := H
            refine t_val (v := .pointer (some x42_37)) rfl rfl hE rfl (r_indexAddrL hE rfl rfl un44 sz51 qx42_37) (fun a hE => ?_)
            obtain ⟨x43_38, qx43_38, H⟩ := H
            refine t_val (v := .agg x43_38) rfl rfl hE rfl (r_loadG hE rfl ag51 qx43_38) (fun a hE => ?_)
            obtain ⟨x14_39, qx14_39, H⟩ := H
            refine t_valh (v := .pointer (some x14_39)) rfl rfl hE rfl hR (r_alloc zr51 qx14_39) (fun a w hE hR hh => ?_)
            replace H := M.at hh H; clear hh
            obtain ⟨qz, H⟩ := H
            obtain ⟨u_40, qu_40, H⟩ := H
            refine t_sth rfl rfl hE hR (r_storeG hE rfl rfl sz51 qz qu_40) (fun a w hE hR hh => ?_)
            replace H := M.at hh H; clear hh
            refine t_nil ?_
            refine hK_36 _ _ ?_
            refine w_seq (fun K hK_41 => ?_)
            obtain ⟨x46_42, qx46_42, H⟩ := H
            obtain ⟨x48_43, qx48_43, H⟩ := H
            have hT := tab_of tb5_8 rfl rfl
            refine d_start (fun w : World => (fun h : Heap => (hcell h ((x14_39).add 1) = some (.int .i64 x46_42)) ∧ (hcell h ((x14_39).add 2) = some (.int .u8 x48_43))) w.heap) [6, 7] #[false, false, false, false, false, false, false, false] mo hR rfl rfl (fun w' e => by rw [e]; exact ⟨qx46_42, qx48_43⟩) (fun w hh hR hs => ?_)
            replace H := M.at hh H; clear hh
            refine d_pureg (i := 0) (v := .pointer x25_3.1) #[true, false, false, false, false, false, false, false] rfl rfl hT (by kernel_rfl) hE rfl (wanted_none rfl) (fun w => r_move hE rfl) (fun a hE => ?_)
            refine d_pureg (i := 1) (v := .pointer (some ((x14_39).add 1))) #[true, true, false, false, false, false, false, false] rfl rfl hT (by kernel_rfl) hE rfl (wanted_none rfl) (fun w => r_fieldAddr hE rfl fd51_1) (fun a hE => ?_)
            refine d_pureg (i := 3) (v := .pointer (some ((x14_39).add 2))) #[true, true, false, true, false, false, false, false] rfl rfl hT (by kernel_rfl) hE rfl (wanted_none rfl) (fun w => r_fieldAddr hE rfl fd51_2) (fun a hE => ?_)
            refine d_read (i := 2) (v := .int .i64 x46_42) #[true, true, true, true, false, false, false, false] rfl rfl hT (by kernel_rfl) hE rfl (wanted_none rfl) hs (fun w s => r_load hE rfl sc3 s.1) (fun a hE => ?_)
            refine d_read (i := 4) (v := .int .u8 x48_43) #[true, true, true, true, true, false, false, false] rfl rfl hT (by kernel_rfl) hE rfl (wanted_none rfl) hs (fun w s => r_load hE rfl sc5 s.2) (fun a hE => ?_)
            refine d_call (i := 5) #[true, true, true, true, true, true, false, false] rfl rfl rfl hT (by kernel_rfl) rfl hE hR (wanted_none rfl) cl_ramblelaw04_filled rfl (S_ramblelaw04_filled x48_43) (M.unbind H) (fun r h H w' e => by obtain ⟨_, sA, H⟩ := H; rw [e]; exact sA) (fun x49_44 a w ea hR H hs => ?_)
            obtain ⟨_, sA, H⟩ := H; clear sA
            have hE := Env.put_some hE rfl ea; clear ea
            refine d_calll (i := 6) #[true, true, true, true, true, true, true, false] rfl rfl rfl hT (by kernel_rfl) rfl hE hR (wanted_none rfl) cl_disk_Disk_Write rfl (S_disk_Disk_Write x25_3.1 x46_42 x49_44) (M.unbind H) (fun x50_45 a w ea hR H => ?_)
            have hE := Env.put_some hE rfl ea; clear ea
            refine d_pureg (i := 7) (v := .bool (x50_45 == 0)) #[true, true, true, true, true, true, true, true] rfl rfl hT (by kernel_rfl) hE rfl (wanted_none rfl) (fun w => r_bin hE rfl rfl g_int b_eql) (fun a hE => ?_)
            refine d_done hT (by kernel_rfl) ?_
            refine hK_41 _ _ ?_
            refine w_cond (x50_45 == 0) hE rfl (fun hb => ?_) (fun hb => ?_)
            · replace H := M.ite_t hb H
              obtain ⟨x53_46, qx53_46, H⟩ := H
              obtain ⟨x55_47, qx55_47, H⟩ := H
              have hT := tab_of tb5_9 rfl rfl
              refine d_start (fun w : World => (fun h : Heap => (hcell h ((x14_39).add 1) = some (.int .i64 x53_46)) ∧ (hcell h ((x14_39).add 2) = some (.int .u8 x55_47))) w.heap) [5, 6] #[false, false, false, false, false, false, false] mo hR rfl rfl (fun w' e => by rw [e]; exact ⟨qx53_46, qx55_47⟩) (fun w hh hR hs => ?_)
              replace H := M.at hh H; clear hh
              refine d_pureg (i := 0) (v := .pointer (some ((x14_39).add 1))) #[true, false, false, false, false, false, false] rfl rfl hT (by kernel_rfl) hE rfl (wanted_none rfl) (fun w => r_fieldAddr hE rfl fd51_1) (fun a hE => ?_)
              refine d_pureg (i := 2) (v := .pointer (some ((x14_39).add 2))) #[true, false, true, false, false, false, false] rfl rfl hT (by kernel_rfl) hE rfl (wanted_none rfl) (fun w => r_fieldAddr hE rfl fd51_2) (fun a hE => ?_)
              refine d_read (i := 1) (v := .int .i64 x53_46) #[true, true, true, false, false, false, false] rfl rfl hT (by kernel_rfl) hE rfl (wanted_none rfl) hs (fun w s => r_load hE rfl sc3 s.1) (fun a hE => ?_)
              refine d_read (i := 3) (v := .int .u8 x55_47) #[true, true, true, true, false, false, false] rfl rfl hT (by kernel_rfl) hE rfl (wanted_none rfl) hs (fun w s => r_load hE rfl sc5 s.2) (fun a hE => ?_)
              refine d_call (i := 4) #[true, true, true, true, true, false, false] rfl rfl rfl hT (by kernel_rfl) rfl hE hR (wanted_none rfl) cl_ramblelaw04_filled rfl (S_ramblelaw04_filled x55_47) (M.unbind H) (fun r h H w' e => by obtain ⟨_, sA, H⟩ := H; rw [e]; exact sA) (fun x56_48 a w ea hR H hs => ?_)
              obtain ⟨_, sA, H⟩ := H; clear sA
              have hE := Env.put_some hE rfl ea; clear ea
              obtain ⟨x57_49, qx57_49, H⟩ := H
              refine d_pureg (i := 5) (v := .pointer (some x57_49)) #[true, true, true, true, true, true, false] rfl rfl hT (by kernel_rfl) hE rfl (wanted_none rfl) (fun w => r_indexAddrA hE rfl rfl un48 sz47 qx57_49) (fun a hE => ?_)
              obtain ⟨qz, H⟩ := H
              obtain ⟨u_50, qu_50, H⟩ := H
              refine d_stlh (i := 6) #[true, true, true, true, true, true, true] rfl rfl hT (by kernel_rfl) rfl hE hR (wanted_none rfl) (r_storeG hE rfl rfl sz47 qz qu_50)  (fun a w hE hR hh => ?_)
              replace H := M.at hh H; clear hh
              refine d_done hT (by kernel_rfl) ?_
              exact ⟨hE.cut (.cons rfl (.cons rfl (.cons rfl (.cons rfl (.cons rfl (.cons rfl (.cons rfl (.cons rfl (.cons rfl Subs.nil))))))))), hR, H⟩
            · replace H := M.ite_f hb H
              refine w_skip ?_
              exact ⟨hE.cut (.cons rfl (.cons rfl (.cons rfl (.cons rfl (.cons rfl (.cons rfl (.cons rfl (.cons rfl (.cons rfl Subs.nil))))))))), hR, H⟩
        · replace H := M.ite_f hb H
          refine w_exit ?_
          refine Xu.same ?_
          refine hK_13 _ _ ?_
          refine w_seq (fun K hK_51 => ?_)
          refine w_seq (fun K hK_52 => ?_)
          refine t_region ?_
          refine t_val (v := .pointer x25_3.1) rfl rfl hE rfl (r_move hE rfl) (fun a hE => ?_)
          refine t_call hE hR cl_disk_Disk_Flush rfl (S_disk_Disk_Flush x25_3.1) (M.unbind H) (fun x60_53 a w ea hR H => ?_)
          have hE := Env.put_some hE rfl ea; clear ea
          refine t_val (v := .bool (x60_53 != 0)) rfl rfl hE rfl (r_bin hE rfl rfl g_int b_neq) (fun a hE => ?_)
          refine t_nil ?_
          refine hK_52 _ _ ?_
          refine w_cond (x60_53 != 0) hE rfl (fun hb => ?_) (fun hb => ?_)
          · replace H := M.ite_t hb H
            refine w_seq (fun K hK_54 => ?_)
            refine t_region ?_
            refine t_val (v := .bool false) rfl rfl hE rfl (r_assign hE rfl) (fun a hE => ?_)
            refine t_nil ?_
            refine hK_54 _ _ ?_
            refine w_ret ?_
            exact hret _ _ _ false _ hE hR (res_run hE rfl (RV.tmp rfl RV.nil)) rfl H
          · replace H := M.ite_f hb H
            refine w_skip ?_
            refine hK_51 _ _ ?_
            refine w_seq (fun K hK_55 => ?_)
            refine t_region ?_
            obtain ⟨x62_56, qx62_56, H⟩ := H
            refine t_val (v := .agg x62_56) rfl rfl hE rfl (r_loadG hE rfl ag48 qx62_56) (fun a hE => ?_)
            obtain ⟨qz, H⟩ := H
            obtain ⟨u_57, qu_57, H⟩ := H
            refine t_sth rfl rfl hE hR (r_storeG hE rfl rfl sz48 qz qu_57) (fun a w hE hR hh => ?_)
            replace H := M.at hh H; clear hh
            refine t_nil ?_
            refine hK_55 _ _ ?_
            refine w_seq (fun K hK_58 => ?_)
            refine w_seq (fun K hK_59 => ?_)
            refine t_region ?_
            refine t_val (v := (x1 : Sl).v) rfl rfl hE rfl (r_move hE rfl) (fun a hE => ?_)
            refine t_val (v := .int .i64 (x1.len : Int)) rfl rfl hE rfl (r_len hE rfl 51 un44) (fun a hE => ?_)
            refine t_val (v := .int .i64 0) rfl rfl hE rfl (r_move hE rfl) (fun a hE => ?_)
            refine t_nil ?_
            refine hK_59 _ _ ?_
            refine w_block ?_
            refine l_loop (fun (s : Int) => (⟨171, []⟩ : Frm)) (fun (s : Int) => [(2, .int .i64 x2), (3, (x3 : Sl).v), (9, .pointer x25_3.1), (11, .pointer (some x11_11)), (12, .pointer (some x12_12)), (63, (x1 : Sl).v), (64, .int .i64 (x1.len : Int)), (65, .int .i64 s)]) H (hE.cut (.cons rfl (.cons rfl (.cons rfl (.cons rfl (.cons rfl (.cons rfl (.cons rfl (.cons rfl Subs.nil))))))))) hR (fun Y self2 hY_68 x65_60 a w hE hR H => ?_)
            replace hE : Env (⟨171, []⟩ : Frm) a [(2, .int .i64 x2), (3, (x3 : Sl).v), (9, .pointer x25_3.1), (11, .pointer (some x11_11)), (12, .pointer (some x12_12)), (63, (x1 : Sl).v), (64, .int .i64 (x1.len : Int)), (65, .int .i64 x65_60)] := hE
            replace H : (ramblelaw04_DiskKeeps_l2 x2 x3 x25_3.1 x11_11 x12_12 x1 (x1.len : Int) self2 x65_60).wp w.heap Q := H
            unfold ramblelaw04_DiskKeeps_l2 at H
            refine w_seq (fun K hK_69 => ?_)
            refine t_region ?_
            refine t_val (v := .bool (decide (x65_60 < (x1.len : Int)))) rfl rfl hE rfl (r_bin hE rfl rfl g_int b_lss) (fun a hE => ?_)
            refine t_nil ?_
            refine hK_69 _ _ ?_
            refine w_seq (fun K hK_70 => ?_)
            refine w_cond (decide (x65_60 < (x1.len : Int))) hE rfl (fun hb => ?_) (fun hb => ?_)
            · replace H := M.ite_t hb H
              refine w_skip ?_
              refine hK_70 _ _ ?_
              refine w_seq_join (fun a w => Env (⟨171, []⟩ : Frm) a [(2, .int .i64 x2), (3, (x3 : Sl).v), (9, .pointer x25_3.1), (11, .pointer (some x11_11)), (12, .pointer (some x12_12)), (63, (x1 : Sl).v), (64, .int .i64 (x1.len : Int)), (65, .int .i64 x65_60)] ∧ Rest w0 w ∧ (ramblelaw04_DiskKeeps_j2 self2 x65_60).wp w.heap Q) ?_ ?_
              · rintro a w ⟨hE, hR, H⟩
                unfold ramblelaw04_DiskKeeps_j2 at H
                refine t_region ?_
                refine t_val (v := .int .i64 (IntKind.wrap .i64 (x65_60 + 1))) rfl rfl hE rfl (r_bin hE rfl rfl g_int b_add) (fun a hE => ?_)
                refine t_val (v := .int .i64 (IntKind.wrap .i64 (x65_60 + 1))) rfl rfl hE rfl (r_move hE rfl) (fun a hE => ?_)
                refine t_nil ?_
                exact hY_68 (IntKind.wrap .i64 (x65_60 + 1)) _ _ (hE.cut (.cons rfl (.cons rfl (.cons rfl (.cons rfl (.cons rfl (.cons rfl (.cons rfl (.cons rfl Subs.nil))))))))) hR H
              · skip
                refine w_block ?_
                refine w_seq (fun K hK_79 => ?_)
                refine t_region ?_
                obtain ⟨x67_80, qx67_80, H⟩ := H
                refine t_val (v := .pointer (some x67_80)) rfl rfl hE rfl (r_indexAddrL hE rfl rfl un44 sz51 qx67_80) (fun a hE => ?_)
                obtain ⟨x68_81, qx68_81, H⟩ := H
                refine t_val (v := .agg x68_81) rfl rfl hE rfl (r_loadG hE rfl ag51 qx68_81) (fun a hE => ?_)
                obtain ⟨x16_82, qx16_82, H⟩ := H
                refine t_valh (v := .pointer (some x16_82)) rfl rfl hE rfl hR (r_alloc zr51 qx16_82) (fun a w hE hR hh => ?_)
                replace H := M.at hh H; clear hh
                obtain ⟨qz, H⟩ := H
                obtain ⟨u_83, qu_83, H⟩ := H
                refine t_sth rfl rfl hE hR (r_storeG hE rfl rfl sz51 qz qu_83) (fun a w hE hR hh => ?_)
                replace H := M.at hh H; clear hh
                refine t_nil ?_
                refine hK_79 _ _ ?_
                refine w_seq (fun K hK_84 => ?_)
                obtain ⟨x71_85, qx71_85, H⟩ := H
                obtain ⟨x73_86, qx73_86, H⟩ := H
                have hT := tab_of tb5_17 rfl rfl
                refine d_start (fun w : World => (fun h : Heap => (hcell h ((x16_82).add 1) = some (.int .i64 x71_85)) ∧ (hcell h ((x16_82).add 2) = some (.int .u8 x73_86))) w.heap) [6, 7] #[false, false, false, false, false, false, false, false] mo hR rfl rfl (fun w' e => by rw [e]; exact ⟨qx71_85, qx73_86⟩) (fun w hh hR hs => ?_)
                replace H := M.at hh H; clear hh
                refine d_pureg (i := 0) (v := .pointer x25_3.1) #[true, false, false, false, false, false, false, false] rfl rfl hT (by kernel_rfl) hE rfl (wanted_none rfl) (fun w => r_move hE rfl) (fun a hE => ?_)
                refine d_pureg (i := 1) (v := .pointer (some ((x16_82).add 1))) #[true, true, false, false, false, false, false, false] rfl rfl hT (by kernel_rfl) hE rfl (wanted_none rfl) (fun w => r_fieldAddr hE rfl fd51_1) (fun a hE => ?_)
                refine d_pureg (i := 3) (v := .pointer (some ((x16_82).add 2))) #[true, true, false, true, false, false, false, false] rfl rfl hT (by kernel_rfl) hE rfl (wanted_none rfl) (fun w => r_fieldAddr hE rfl fd51_2) (fun a hE => ?_)
                refine d_read (i := 2) (v := .int .i64 x71_85) #[true, true, true, true, false, false, false, false] rfl rfl hT (by kernel_rfl) hE rfl (wanted_none rfl) hs (fun w s => r_load hE rfl sc3 s.1) (fun a hE => ?_)
                refine d_read (i := 4) (v := .int .u8 x73_86) #[true, true, true, true, true, false, false, false] rfl rfl hT (by kernel_rfl) hE rfl (wanted_none rfl) hs (fun w s => r_load hE rfl sc5 s.2) (fun a hE => ?_)
                refine d_call (i := 5) #[true, true, true, true, true, true, false, false] rfl rfl rfl hT (by kernel_rfl) rfl hE hR (wanted_none rfl) cl_ramblelaw04_filled rfl (S_ramblelaw04_filled x73_86) (M.unbind H) (fun r h H w' e => by obtain ⟨_, sA, H⟩ := H; rw [e]; exact sA) (fun x74_87 a w ea hR H hs => ?_)
                obtain ⟨_, sA, H⟩ := H; clear sA
                have hE := Env.put_some hE rfl ea; clear ea
                refine d_calll (i := 6) #[true, true, true, true, true, true, true, false] rfl rfl rfl hT (by kernel_rfl) rfl hE hR (wanted_none rfl) cl_disk_Disk_Write rfl (S_disk_Disk_Write x25_3.1 x71_85 x74_87) (M.unbind H) (fun x75_88 a w ea hR H => ?_)
                have hE := Env.put_some hE rfl ea; clear ea
                refine d_pureg (i := 7) (v := .bool (x75_88 == 0)) #[true, true, true, true, true, true, true, true] rfl rfl hT (by kernel_rfl) hE rfl (wanted_none rfl) (fun w => r_bin hE rfl rfl g_int b_eql) (fun a hE => ?_)
                refine d_done hT (by kernel_rfl) ?_
                refine hK_84 _ _ ?_
                refine w_cond (x75_88 == 0) hE rfl (fun hb => ?_) (fun hb => ?_)
                · replace H := M.ite_t hb H
                  obtain ⟨x78_89, qx78_89, H⟩ := H
                  obtain ⟨x80_90, qx80_90, H⟩ := H
                  have hT := tab_of tb5_18 rfl rfl
                  refine d_start (fun w : World => (fun h : Heap => (hcell h ((x16_82).add 1) = some (.int .i64 x78_89)) ∧ (hcell h ((x16_82).add 2) = some (.int .u8 x80_90))) w.heap) [5, 6] #[false, false, false, false, false, false, false] mo hR rfl rfl (fun w' e => by rw [e]; exact ⟨qx78_89, qx80_90⟩) (fun w hh hR hs => ?_)
                  replace H := M.at hh H; clear hh
                  refine d_pureg (i := 0) (v := .pointer (some ((x16_82).add 1))) #[true, false, false, false, false, false, false] rfl rfl hT (by kernel_rfl) hE rfl (wanted_none rfl) (fun w => r_fieldAddr hE rfl fd51_1) (fun a hE => ?_)
                  refine d_pureg (i := 2) (v := .pointer (some ((x16_82).add 2))) #[true, false, true, false, false, false, false] rfl rfl hT (by kernel_rfl) hE rfl (wanted_none rfl) (fun w => r_fieldAddr hE rfl fd51_2) (fun a hE => ?_)
                  refine d_read (i := 1) (v := .int .i64 x78_89) #[true, true, true, false, false, false, false] rfl rfl hT (by kernel_rfl) hE rfl (wanted_none rfl) hs (fun w s => r_load hE rfl sc3 s.1) (fun a hE => ?_)
                  refine d_read (i := 3) (v := .int .u8 x80_90) #[true, true, true, true, false, false, false] rfl rfl hT (by kernel_rfl) hE rfl (wanted_none rfl) hs (fun w s => r_load hE rfl sc5 s.2) (fun a hE => ?_)
                  refine d_call (i := 4) #[true, true, true, true, true, false, false] rfl rfl rfl hT (by kernel_rfl) rfl hE hR (wanted_none rfl) cl_ramblelaw04_filled rfl (S_ramblelaw04_filled x80_90) (M.unbind H) (fun r h H w' e => by obtain ⟨_, sA, H⟩ := H; rw [e]; exact sA) (fun x81_91 a w ea hR H hs => ?_)
                  obtain ⟨_, sA, H⟩ := H; clear sA
                  have hE := Env.put_some hE rfl ea; clear ea
                  obtain ⟨x82_92, qx82_92, H⟩ := H
                  refine d_pureg (i := 5) (v := .pointer (some x82_92)) #[true, true, true, true, true, true, false] rfl rfl hT (by kernel_rfl) hE rfl (wanted_none rfl) (fun w => r_indexAddrA hE rfl rfl un48 sz47 qx82_92) (fun a hE => ?_)
                  obtain ⟨qz, H⟩ := H
                  obtain ⟨u_93, qu_93, H⟩ := H
                  refine d_stlh (i := 6) #[true, true, true, true, true, true, true] rfl rfl hT (by kernel_rfl) rfl hE hR (wanted_none rfl) (r_storeG hE rfl rfl sz47 qz qu_93)  (fun a w hE hR hh => ?_)
                  replace H := M.at hh H; clear hh
                  refine d_done hT (by kernel_rfl) ?_
                  exact ⟨hE.cut (.cons rfl (.cons rfl (.cons rfl (.cons rfl (.cons rfl (.cons rfl (.cons rfl (.cons rfl Subs.nil)))))))), hR, H⟩
                · replace H := M.ite_f hb H
                  refine w_skip ?_
                  exact ⟨hE.cut (.cons rfl (.cons rfl (.cons rfl (.cons rfl (.cons rfl (.cons rfl (.cons rfl (.cons rfl Subs.nil)))))))), hR, H⟩
            · replace H := M.ite_f hb H
              refine w_exit ?_
              refine Xu.same ?_
              refine hK_58 _ _ ?_
              refine w_seq (fun K hK_94 => ?_)
              refine t_region ?_
              refine t_val (v := .pointer x25_3.1) rfl rfl hE rfl (r_move hE rfl) (fun a hE => ?_)
              refine t_call hE hR cl_disk_Disk_Dirty rfl (S_disk_Disk_Dirty x25_3.1) (M.unbind H) (fun x85_95 a w ea hR H => ?_)
              have hE := Env.put_some hE rfl ea; clear ea
              refine t_val (v := (x85_95 : Sl).v) rfl rfl hE rfl (r_assign hE rfl) (fun a hE => ?_)
              refine t_nil ?_
              refine hK_94 _ _ ?_
              refine w_seq (fun K hK_96 => ?_)
              refine w_seq (fun K hK_97 => ?_)
              refine t_region ?_
              refine t_val (v := .pointer x25_3.1) rfl rfl hE rfl (r_move hE rfl) (fun a hE => ?_)
              refine t_val (v := .int .i64 x2) rfl rfl hE rfl (r_move hE rfl) (fun a hE => ?_)
              refine t_val (v := (x3 : Sl).v) rfl rfl hE rfl (r_move hE rfl) (fun a hE => ?_)
              refine t_call hE hR cl_disk_Disk_Crash rfl (S_disk_Disk_Crash x25_3.1 x2 x3) (M.unbind H) (fun x89_98 a w ea hR H => ?_)
              have hE := Env.put_some hE rfl ea; clear ea
              refine t_val (v := .bool (x89_98 != 0)) rfl rfl hE rfl (r_bin hE rfl rfl g_int b_neq) (fun a hE => ?_)
              refine t_val (v := .bool (x89_98 != 0)) rfl rfl hE rfl (r_move hE rfl) (fun a hE => ?_)
              refine t_grp (n := (⟨171, []⟩ : Frm)) (w0 := w0) 4 (fun x95_99 : Bool => [(9, .pointer x25_3.1), (11, .pointer (some x11_11)), (12, .pointer (some x12_12)), (17, (x85_95 : Sl).v), (95, .bool x95_99)]) (M.unbind H) (fun Kr hKr H => ?_) ?_
              · rcases bool_em (x89_98 != 0) with hb | hb
                · replace H := M.ite_t hb H
                  have hE := hE.reb 91 (x89_98 != 0) true hb rfl
                  refine t_off rfl hE rfl rfl rfl (fun a ea => ?_)
                  have hE := Env.put_some hE rfl ea; clear ea
                  refine t_off rfl hE rfl rfl rfl (fun a ea => ?_)
                  have hE := Env.put_some hE rfl ea; clear ea
                  refine t_off rfl hE rfl rfl rfl (fun a ea => ?_)
                  have hE := Env.put_some hE rfl ea; clear ea
                  refine t_val rfl rfl hE rfl (r_pick_t hE rfl rfl) (fun a hE => ?_)
                  refine t_nil ?_
                  exact hKr _ _ _ (hE.cut (.cons rfl (.cons rfl (.cons rfl (.cons rfl (.cons rfl Subs.nil)))))) hR H
                · replace H := M.ite_f hb H
                  have hE := hE.reb 91 (x89_98 != 0) false hb rfl
                  refine t_on rfl hE rfl rfl rfl ?_
                  refine t_val (v := .pointer x25_3.1) rfl rfl hE rfl (r_move hE rfl) (fun a hE => ?_)
                  refine t_on rfl hE rfl rfl rfl ?_
                  refine t_call hE hR cl_disk_Disk_Start rfl (S_disk_Disk_Start x25_3.1 0 Sl.nil) (M.unbind H) (fun x93_100 a w ea hR H => ?_)
                  have hE := Env.put_some hE rfl ea; clear ea
                  refine t_on rfl hE rfl rfl rfl ?_
                  refine t_val (v := .bool (x93_100 != 0)) rfl rfl hE rfl (r_bin hE rfl rfl g_int b_neq) (fun a hE => ?_)
                  refine t_val rfl rfl hE rfl (r_pick_f hE rfl rfl) (fun a hE => ?_)
                  refine t_nil ?_
                  exact hKr _ _ _ (hE.cut (.cons rfl (.cons rfl (.cons rfl (.cons rfl (.cons rfl Subs.nil)))))) hR H
              · intro x95_99 a w hE hR H
                refine t_nil ?_
                refine hK_97 _ _ ?_
                refine w_cond x95_99 hE rfl (fun hb => ?_) (fun hb => ?_)
                · replace H := M.ite_t hb H
                  refine w_seq (fun K hK_101 => ?_)
                  refine t_region ?_
                  refine t_val (v := .bool false) rfl rfl hE rfl (r_assign hE rfl) (fun a hE => ?_)
                  refine t_nil ?_
                  refine hK_101 _ _ ?_
                  refine w_ret ?_
                  exact hret _ _ _ false _ hE hR (res_run hE rfl (RV.tmp rfl RV.nil)) rfl H
                · replace H := M.ite_f hb H
                  refine w_skip ?_
                  refine hK_96 _ _ ?_
                  refine w_seq (fun K hK_102 => ?_)
                  refine t_region ?_
                  refine t_val (v := .int .i64 0) rfl rfl hE rfl (r_assign hE rfl) (fun a hE => ?_)
                  refine t_nil ?_
                  refine hK_102 _ _ ?_
                  refine w_seq (fun K hK_103 => ?_)
                  refine w_seq (fun K hK_104 => ?_)
                  refine t_region ?_
                  refine t_val (v := .int .i64 0) rfl rfl hE rfl (r_move hE rfl) (fun a hE => ?_)
                  refine t_nil ?_
                  refine hK_104 _ _ ?_
                  refine w_block ?_
                  refine l_loop (fun (s : Int × Int) => (⟨171, []⟩ : Frm)) (fun (s : Int × Int) => [(9, .pointer x25_3.1), (11, .pointer (some x11_11)), (12, .pointer (some x12_12)), (17, (x85_95 : Sl).v), (18, .int .i64 s.1), (96, .int .i64 s.2)]) H (hE.cut (.cons rfl (.cons rfl (.cons rfl (.cons rfl (.cons rfl (.cons rfl Subs.nil))))))) hR (fun Y self3 hY_111 s a w hE hR H => ?_)
                  rcases s with ⟨x18_105, x96_106⟩
                  replace hE : Env (⟨171, []⟩ : Frm) a [(9, .pointer x25_3.1), (11, .pointer (some x11_11)), (12, .pointer (some x12_12)), (17, (x85_95 : Sl).v), (18, .int .i64 x18_105), (96, .int .i64 x96_106)] := hE
                  replace H : (ramblelaw04_DiskKeeps_l3 x25_3.1 x11_11 x12_12 x85_95 self3 (x18_105, x96_106)).wp w.heap Q := H
                  unfold ramblelaw04_DiskKeeps_l3 at H
                  refine w_seq (fun K hK_112 => ?_)
                  refine t_region ?_
                  refine t_val (v := .bool (decide (x96_106 < 8))) rfl rfl hE rfl (r_bin hE rfl rfl g_int b_lss) (fun a hE => ?_)
                  refine t_nil ?_
                  refine hK_112 _ _ ?_
                  refine w_seq (fun K hK_113 => ?_)
                  refine w_cond (decide (x96_106 < 8)) hE rfl (fun hb => ?_) (fun hb => ?_)
                  · replace H := M.ite_t hb H
                    refine w_skip ?_
                    refine hK_113 _ _ ?_
                    refine w_seq_join (fun a w => ∃ (x18_114 : Int), Env (⟨171, []⟩ : Frm) a [(9, .pointer x25_3.1), (11, .pointer (some x11_11)), (12, .pointer (some x12_12)), (17, (x85_95 : Sl).v), (96, .int .i64 x96_106), (18, .int .i64 x18_114)] ∧ Rest w0 w ∧ (ramblelaw04_DiskKeeps_j3 self3 x96_106 x18_114).wp w.heap Q) ?_ ?_
                    · rintro a w ⟨x18_114, hE, hR, H⟩
                      unfold ramblelaw04_DiskKeeps_j3 at H
                      refine t_region ?_
                      refine t_val (v := .int .i64 (IntKind.wrap .i64 (x96_106 + 1))) rfl rfl hE rfl (r_bin hE rfl rfl g_int b_add) (fun a hE => ?_)
                      refine t_val (v := .int .i64 (IntKind.wrap .i64 (x96_106 + 1))) rfl rfl hE rfl (r_move hE rfl) (fun a hE => ?_)
                      refine t_nil ?_
                      exact hY_111 (x18_114, IntKind.wrap .i64 (x96_106 + 1)) _ _ (hE.cut (.cons rfl (.cons rfl (.cons rfl (.cons rfl (.cons rfl (.cons rfl Subs.nil))))))) hR H
                    · skip
                      refine w_block ?_
                      refine w_seq (fun K hK_120 => ?_)
                      refine t_region ?_
                      refine t_val (v := .int .i64 x96_106) rfl rfl hE rfl (r_move hE rfl) (fun a hE => ?_)
                      refine t_val (v := .int .i64 x96_106) rfl rfl hE rfl (r_assign hE rfl) (fun a hE => ?_)
                      refine t_nil ?_
                      refine hK_120 _ _ ?_
                      refine w_seq (fun K hK_121 => ?_)
                      refine t_region ?_
                      refine t_val (v := .pointer x25_3.1) rfl rfl hE rfl (r_move hE rfl) (fun a hE => ?_)
                      refine t_val (v := .int .i64 x96_106) rfl rfl hE rfl (r_move hE rfl) (fun a hE => ?_)
                      refine t_call hE hR cl_disk_Disk_Read rfl (S_disk_Disk_Read x25_3.1 x96_106) (M.unbind H) (fun x102_122 a w ea hR H => ?_)
                      have hE := Env.put_some hE rfl ea; clear ea
                      refine t_val (v := .tuple #[.agg x102_122.1, .int .i64 x102_122.2]) rfl rfl hE rfl (r_move hE rfl) (fun a hE => ?_)
                      refine t_val (v := .agg x102_122.1) rfl rfl hE rfl (r_extract hE rfl rfl) (fun a hE => ?_)
                      refine t_val (v := .int .i64 x102_122.2) rfl rfl hE rfl (r_extract hE rfl rfl) (fun a hE => ?_)
                      obtain ⟨x20_123, qx20_123, H⟩ := H
                      refine t_valh (v := .pointer (some x20_123)) rfl rfl hE rfl hR (r_alloc zr47 qx20_123) (fun a w hE hR hh => ?_)
                      replace H := M.at hh H; clear hh
                      obtain ⟨qz, H⟩ := H
                      obtain ⟨u_124, qu_124, H⟩ := H
                      refine t_sth rfl rfl hE hR (r_storeG hE rfl rfl sz47 qz qu_124) (fun a w hE hR hh => ?_)
                      replace H := M.at hh H; clear hh
                      refine t_val (v := .int .i64 x102_122.2) rfl rfl hE rfl (r_assign hE rfl) (fun a hE => ?_)
                      refine t_nil ?_
                      refine hK_121 _ _ ?_
                      refine w_block ?_
                      refine w_seq (fun K hK_125 => ?_)
                      refine t_region ?_
                      refine t_val (v := .int .i64 x102_122.2) rfl rfl hE rfl (r_move hE rfl) (fun a hE => ?_)
                      refine t_val (v := .bool (x102_122.2 == 40)) rfl rfl hE rfl (r_bin hE rfl rfl g_int b_eql) (fun a hE => ?_)
                      refine t_val (v := .bool (x102_122.2 == 40)) rfl rfl hE rfl (r_assign hE rfl) (fun a hE => ?_)
                      refine t_nil ?_
                      refine hK_125 _ _ ?_
                      refine w_cond (x102_122.2 == 40) hE rfl (fun hb => ?_) (fun hb => ?_)
                      · replace H := M.ite_t hb H
                        refine w_seq (fun K hK_126 => ?_)
                        refine t_region ?_
                        refine t_val (v := .int .i64 x18_105) rfl rfl hE rfl (r_move hE rfl) (fun a hE => ?_)
                        refine t_val (v := .int .i64 (IntKind.wrap .i64 (x18_105 + 1))) rfl rfl hE rfl (r_bin hE rfl rfl g_int b_add) (fun a hE => ?_)
                        refine t_val (v := .int .i64 (IntKind.wrap .i64 (x18_105 + 1))) rfl rfl hE rfl (r_assign hE rfl) (fun a hE => ?_)
                        refine t_nil ?_
                        refine hK_126 _ _ ?_
                        refine w_seq (fun K hK_127 => ?_)
                        refine w_seq (fun K hK_128 => ?_)
                        refine t_region ?_
                        refine t_val (v := (x85_95 : Sl).v) rfl rfl hE rfl (r_move hE rfl) (fun a hE => ?_)
                        refine t_val (v := .int .i64 x96_106) rfl rfl hE rfl (r_move hE rfl) (fun a hE => ?_)
                        refine t_call hE hR cl_slices_Contains_slint_int rfl (S_slices_Contains_slint_int x85_95 x96_106) (M.unbind H) (fun x112_129 a w ea hR H => ?_)
                        have hE := Env.put_some hE rfl ea; clear ea
                        refine t_val (v := .bool (!x112_129)) rfl rfl hE rfl (r_un hE rfl u_not) (fun a hE => ?_)
                        refine t_val (v := .bool (!x112_129)) rfl rfl hE rfl (r_move hE rfl) (fun a hE => ?_)
                        refine t_grp (n := (⟨171, []⟩ : Frm)) (w0 := w0) 8 (fun x122_130 : Bool => [(9, .pointer x25_3.1), (11, .pointer (some x11_11)), (12, .pointer (some x12_12)), (17, (x85_95 : Sl).v), (18, .int .i64 (IntKind.wrap .i64 (x18_105 + 1))), (96, .int .i64 x96_106), (19, .int .i64 x96_106), (122, .bool x122_130)]) (M.unbind H) (fun Kr hKr H => ?_) ?_
                        · rcases bool_em (!x112_129) with hb | hb
                          · replace H := M.ite_t hb H
                            have hE := hE.reb 114 (!x112_129) true hb rfl
                            refine t_off rfl hE rfl rfl rfl (fun a ea => ?_)
                            have hE := Env.put_some hE rfl ea; clear ea
                            refine t_off rfl hE rfl rfl rfl (fun a ea => ?_)
                            have hE := Env.put_some hE rfl ea; clear ea
                            refine t_off rfl hE rfl rfl rfl (fun a ea => ?_)
                            have hE := Env.put_some hE rfl ea; clear ea
                            refine t_off rfl hE rfl rfl rfl (fun a ea => ?_)
                            have hE := Env.put_some hE rfl ea; clear ea
                            refine t_off rfl hE rfl rfl rfl (fun a ea => ?_)
                            have hE := Env.put_some hE rfl ea; clear ea
                            refine t_off rfl hE rfl rfl rfl (fun a ea => ?_)
                            have hE := Env.put_some hE rfl ea; clear ea
                            refine t_off rfl hE rfl rfl rfl (fun a ea => ?_)
                            have hE := Env.put_some hE rfl ea; clear ea
                            refine t_val rfl rfl hE rfl (r_pick_t hE rfl rfl) (fun a hE => ?_)
                            refine t_nil ?_
                            exact hKr _ _ _ (hE.cut (.cons rfl (.cons rfl (.cons rfl (.cons rfl (.cons rfl (.cons rfl (.cons rfl (.cons rfl Subs.nil))))))))) hR H
                          · replace H := M.ite_f hb H
                            have hE := hE.reb 114 (!x112_129) false hb rfl
                            refine t_on rfl hE rfl rfl rfl ?_
                            refine t_val (v := .pointer x25_3.1) rfl rfl hE rfl (r_move hE rfl) (fun a hE => ?_)
                            refine t_on rfl hE rfl rfl rfl ?_
                            refine t_val (v := .int .i64 x96_106) rfl rfl hE rfl (r_move hE rfl) (fun a hE => ?_)
                            refine t_on rfl hE rfl rfl rfl ?_
                            refine t_val (v := .int .i64 x96_106) rfl rfl hE rfl (r_move hE rfl) (fun a hE => ?_)
                            refine t_on rfl hE rfl rfl rfl ?_
                            obtain ⟨x118_131, qx118_131, H⟩ := H
                            refine t_val (v := .pointer (some x118_131)) rfl rfl hE rfl (r_indexAddrA hE rfl rfl un48 sz47 qx118_131) (fun a hE => ?_)
                            refine t_on rfl hE rfl rfl rfl ?_
                            obtain ⟨x119_132, qx119_132, H⟩ := H
                            refine t_val (v := .agg x119_132) rfl rfl hE rfl (r_loadG hE rfl ag47 qx119_132) (fun a hE => ?_)
                            refine t_on rfl hE rfl rfl rfl ?_
                            refine t_call hE hR cl_disk_Disk_Write rfl (S_disk_Disk_Write x25_3.1 x96_106 x119_132) (M.unbind H) (fun x120_133 a w ea hR H => ?_)
                            have hE := Env.put_some hE rfl ea; clear ea
                            refine t_on rfl hE rfl rfl rfl ?_
                            refine t_val (v := .bool (x120_133 != 0)) rfl rfl hE rfl (r_bin hE rfl rfl g_int b_neq) (fun a hE => ?_)
                            refine t_val rfl rfl hE rfl (r_pick_f hE rfl rfl) (fun a hE => ?_)
                            refine t_nil ?_
                            exact hKr _ _ _ (hE.cut (.cons rfl (.cons rfl (.cons rfl (.cons rfl (.cons rfl (.cons rfl (.cons rfl (.cons rfl Subs.nil))))))))) hR H
                        · intro x122_130 a w hE hR H
                          refine t_nil ?_
                          refine hK_128 _ _ ?_
                          refine w_cond x122_130 hE rfl (fun hb => ?_) (fun hb => ?_)
                          · replace H := M.ite_t hb H
                            refine w_seq (fun K hK_134 => ?_)
                            refine t_region ?_
                            refine t_val (v := .bool false) rfl rfl hE rfl (r_assign hE rfl) (fun a hE => ?_)
                            refine t_nil ?_
                            refine hK_134 _ _ ?_
                            refine w_ret ?_
                            exact hret _ _ _ false _ hE hR (res_run hE rfl (RV.tmp rfl RV.nil)) rfl H
                          · replace H := M.ite_f hb H
                            refine w_skip ?_
                            refine hK_127 _ _ ?_
                            refine w_seq (fun K hK_135 => ?_)
                            refine t_region ?_
                            refine t_val (v := .pointer x25_3.1) rfl rfl hE rfl (r_move hE rfl) (fun a hE => ?_)
                            refine t_val (v := .int .i64 x96_106) rfl rfl hE rfl (r_move hE rfl) (fun a hE => ?_)
                            refine t_call hE hR cl_disk_Disk_Read rfl (S_disk_Disk_Read x25_3.1 x96_106) (M.unbind H) (fun x126_136 a w ea hR H => ?_)
                            have hE := Env.put_some hE rfl ea; clear ea
                            refine t_val (v := .tuple #[.agg x126_136.1, .int .i64 x126_136.2]) rfl rfl hE rfl (r_move hE rfl) (fun a hE => ?_)
                            refine t_val (v := .agg x126_136.1) rfl rfl hE rfl (r_extract hE rfl rfl) (fun a hE => ?_)
                            refine t_val (v := .int .i64 x126_136.2) rfl rfl hE rfl (r_extract hE rfl rfl) (fun a hE => ?_)
                            obtain ⟨x22_137, qx22_137, H⟩ := H
                            refine t_valh (v := .pointer (some x22_137)) rfl rfl hE rfl hR (r_alloc zr47 qx22_137) (fun a w hE hR hh => ?_)
                            replace H := M.at hh H; clear hh
                            obtain ⟨qz, H⟩ := H
                            obtain ⟨u_138, qu_138, H⟩ := H
                            refine t_sth rfl rfl hE hR (r_storeG hE rfl rfl sz47 qz qu_138) (fun a w hE hR hh => ?_)
                            replace H := M.at hh H; clear hh
                            refine t_val (v := .int .i64 x126_136.2) rfl rfl hE rfl (r_assign hE rfl) (fun a hE => ?_)
                            refine t_nil ?_
                            refine hK_135 _ _ ?_
                            refine w_seq_join (fun a w => ∃ (x137_139 : Bool), Env (⟨171, []⟩ : Frm) a [(9, .pointer x25_3.1), (11, .pointer (some x11_11)), (12, .pointer (some x12_12)), (17, (x85_95 : Sl).v), (18, .int .i64 (IntKind.wrap .i64 (x18_105 + 1))), (96, .int .i64 x96_106), (137, .bool x137_139)] ∧ Rest w0 w ∧ (ramblelaw04_DiskKeeps_j4 self3 (IntKind.wrap .i64 (x18_105 + 1)) x96_106 x137_139).wp w.heap Q) ?_ ?_
                            · rintro a w ⟨x137_139, hE, hR, H⟩
                              unfold ramblelaw04_DiskKeeps_j4 at H
                              refine w_cond x137_139 hE rfl (fun hb => ?_) (fun hb => ?_)
                              · replace H := M.ite_t hb H
                                refine w_seq (fun K hK_146 => ?_)
                                refine t_region ?_
                                refine t_val (v := .bool false) rfl rfl hE rfl (r_assign hE rfl) (fun a hE => ?_)
                                refine t_nil ?_
                                refine hK_146 _ _ ?_
                                refine w_ret ?_
                                exact hret _ _ _ false _ hE hR (res_run hE rfl (RV.tmp rfl RV.nil)) rfl H
                              · replace H := M.ite_f hb H
                                refine w_skip ?_
                                exact ⟨(IntKind.wrap .i64 (x18_105 + 1)), hE.cut (.cons rfl (.cons rfl (.cons rfl (.cons rfl (.cons rfl (.cons rfl Subs.nil)))))), hR, H⟩
                            · skip
                              obtain ⟨x131_147, qx131_147, H⟩ := H
                              obtain ⟨x129_148, qx129_148, H⟩ := H
                              obtain ⟨x132_149, qx132_149, H⟩ := H
                              obtain ⟨x133_150, qx133_150, H⟩ := H
                              rcases bool_em (!x133_150) with hb_151 | hb_151
                              · replace H := M.ite_t hb_151 H
                                have hT := tab_of tb5_33 rfl rfl
                                refine d_start (fun w : World => (fun h : Heap => (x129_148.size = 128 ∧ ∀ i, i < 128 → hcell h (Addr.add x22_137 i) = x129_148[i]?) ∧ (x132_149.size = 128 ∧ ∀ i, i < 128 → hcell h (Addr.add x131_147 i) = x132_149[i]?)) w.heap) [4, 5, 6, 7, 8] #[false, false, false, false, false, false, false, false, false] mo hR rfl rfl (fun w' e => by rw [e]; exact ⟨qx129_148, qx132_149⟩) (fun w hh hR hs => ?_)
                                replace H := M.at hh H; clear hh
                                refine d_pureg (i := 1) (v := .int .i64 x96_106) #[false, true, false, false, false, false, false, false, false] rfl rfl hT (by kernel_rfl) hE rfl (wanted_none rfl) (fun w => r_move hE rfl) (fun a hE => ?_)
                                refine d_pureg (i := 2) (v := .pointer (some x131_147)) #[false, true, true, false, false, false, false, false, false] rfl rfl hT (by kernel_rfl) hE rfl (wanted_none rfl) (fun w => r_indexAddrA hE rfl rfl un48 sz47 qx131_147) (fun a hE => ?_)
                                refine d_read (i := 0) (v := .agg x129_148) #[true, true, true, false, false, false, false, false, false] rfl rfl hT (by kernel_rfl) hE rfl (wanted_none rfl) hs (fun w s => r_loadG hE rfl ag47 s.1) (fun a hE => ?_)
                                refine d_read (i := 3) (v := .agg x132_149) #[true, true, true, true, false, false, false, false, false] rfl rfl hT (by kernel_rfl) hE rfl (wanted_none rfl) hs (fun w s => r_loadG hE rfl ag47 s.2) (fun a hE => ?_)
                                refine d_pureg (i := 4) (v := .bool (!x133_150)) #[true, true, true, true, true, false, false, false, false] rfl rfl hT (by kernel_rfl) hE rfl (wanted_none rfl) (fun w => r_bin hE rfl rfl (g_agg eg47) (b_neqA un47 un5 sz5 qx133_150)) (fun a hE => ?_)
                                refine d_pureg (i := 5) (v := .bool (!x133_150)) #[true, true, true, true, true, true, false, false, false] rfl rfl hT (by kernel_rfl) hE rfl (wanted_none rfl) (fun w => r_move hE rfl) (fun a hE => ?_)
                                have hE := hE.reb 134 (!x133_150) true hb_151 rfl
                                refine d_off (i := 6) #[true, true, true, true, true, true, true, false, false] rfl rfl hT (by kernel_rfl) (unwanted_of rfl hE rfl rfl rfl) (fun a ea => ?_)
                                have hE := Env.put_some hE rfl ea; clear ea
                                refine d_off (i := 7) #[true, true, true, true, true, true, true, true, false] rfl rfl hT (by kernel_rfl) (unwanted_of rfl hE rfl rfl rfl) (fun a ea => ?_)
                                have hE := Env.put_some hE rfl ea; clear ea
                                refine d_pureg (i := 8) (v := .bool true) #[true, true, true, true, true, true, true, true, true] rfl rfl hT (by kernel_rfl) hE rfl (wanted_none rfl) (fun w => r_pick_t hE rfl rfl) (fun a hE => ?_)
                                refine d_done hT (by kernel_rfl) ?_
                                exact ⟨true, hE.cut (.cons rfl (.cons rfl (.cons rfl (.cons rfl (.cons rfl (.cons rfl (.cons rfl Subs.nil))))))), hR, H⟩
                              · replace H := M.ite_f hb_151 H
                                have hT := tab_of tb5_33 rfl rfl
                                refine d_start (fun w : World => (fun h : Heap => (x129_148.size = 128 ∧ ∀ i, i < 128 → hcell h (Addr.add x22_137 i) = x129_148[i]?) ∧ (x132_149.size = 128 ∧ ∀ i, i < 128 → hcell h (Addr.add x131_147 i) = x132_149[i]?)) w.heap) [4, 5, 6, 7, 8] #[false, false, false, false, false, false, false, false, false] mo hR rfl rfl (fun w' e => by rw [e]; exact ⟨qx129_148, qx132_149⟩) (fun w hh hR hs => ?_)
                                replace H := M.at hh H; clear hh
                                refine d_pureg (i := 1) (v := .int .i64 x96_106) #[false, true, false, false, false, false, false, false, false] rfl rfl hT (by kernel_rfl) hE rfl (wanted_none rfl) (fun w => r_move hE rfl) (fun a hE => ?_)
                                refine d_pureg (i := 2) (v := .pointer (some x131_147)) #[false, true, true, false, false, false, false, false, false] rfl rfl hT (by kernel_rfl) hE rfl (wanted_none rfl) (fun w => r_indexAddrA hE rfl rfl un48 sz47 qx131_147) (fun a hE => ?_)
                                refine d_read (i := 0) (v := .agg x129_148) #[true, true, true, false, false, false, false, false, false] rfl rfl hT (by kernel_rfl) hE rfl (wanted_none rfl) hs (fun w s => r_loadG hE rfl ag47 s.1) (fun a hE => ?_)
                                refine d_read (i := 3) (v := .agg x132_149) #[true, true, true, true, false, false, false, false, false] rfl rfl hT (by kernel_rfl) hE rfl (wanted_none rfl) hs (fun w s => r_loadG hE rfl ag47 s.2) (fun a hE => ?_)
                                refine d_pureg (i := 4) (v := .bool (!x133_150)) #[true, true, true, true, true, false, false, false, false] rfl rfl hT (by kernel_rfl) hE rfl (wanted_none rfl) (fun w => r_bin hE rfl rfl (g_agg eg47) (b_neqA un47 un5 sz5 qx133_150)) (fun a hE => ?_)
                                refine d_pureg (i := 5) (v := .bool (!x133_150)) #[true, true, true, true, true, true, false, false, false] rfl rfl hT (by kernel_rfl) hE rfl (wanted_none rfl) (fun w => r_move hE rfl) (fun a hE => ?_)
                                have hE := hE.reb 134 (!x133_150) false hb_151 rfl
                                refine d_pureg (i := 6) (v := .int .i64 x126_136.2) #[true, true, true, true, true, true, true, false, false] rfl rfl hT (by kernel_rfl) hE rfl (wanted_of rfl hE rfl rfl rfl) (fun w => r_move hE rfl) (fun a hE => ?_)
                                refine d_pureg (i := 7) (v := .bool (x126_136.2 != 0)) #[true, true, true, true, true, true, true, true, false] rfl rfl hT (by kernel_rfl) hE rfl (wanted_of rfl hE rfl rfl rfl) (fun w => r_bin hE rfl rfl g_int b_neq) (fun a hE => ?_)
                                refine d_pureg (i := 8) (v := .bool (x126_136.2 != 0)) #[true, true, true, true, true, true, true, true, true] rfl rfl hT (by kernel_rfl) hE rfl (wanted_none rfl) (fun w => r_pick_f hE rfl rfl) (fun a hE => ?_)
                                refine d_done hT (by kernel_rfl) ?_
                                exact ⟨x126_136.2 != 0, hE.cut (.cons rfl (.cons rfl (.cons rfl (.cons rfl (.cons rfl (.cons rfl (.cons rfl Subs.nil))))))), hR, H⟩
                      · replace H := M.ite_f hb H
                        refine w_seq_join (fun a w => ∃ (x138_152 : Bool), Env (⟨171, []⟩ : Frm) a [(9, .pointer x25_3.1), (11, .pointer (some x11_11)), (12, .pointer (some x12_12)), (17, (x85_95 : Sl).v), (18, .int .i64 x18_105), (96, .int .i64 x96_106), (138, .bool x138_152)] ∧ Rest w0 w ∧ (ramblelaw04_DiskKeeps_j5 self3 x18_105 x96_106 x138_152).wp w.heap Q) ?_ ?_
                        · rintro a w ⟨x138_152, hE, hR, H⟩
                          unfold ramblelaw04_DiskKeeps_j5 at H
                          refine w_cond x138_152 hE rfl (fun hb => ?_) (fun hb => ?_)
                          · replace H := M.ite_t hb H
                            refine w_seq (fun K hK_159 => ?_)
                            refine t_region ?_
                            refine t_val (v := .bool false) rfl rfl hE rfl (r_assign hE rfl) (fun a hE => ?_)
                            refine t_nil ?_
                            refine hK_159 _ _ ?_
                            refine w_ret ?_
                            exact hret _ _ _ false _ hE hR (res_run hE rfl (RV.tmp rfl RV.nil)) rfl H
                          · replace H := M.ite_f hb H
                            refine w_skip ?_
                            exact ⟨x18_105, hE.cut (.cons rfl (.cons rfl (.cons rfl (.cons rfl (.cons rfl (.cons rfl Subs.nil)))))), hR, H⟩
                        · skip
                          rcases bool_em (x102_122.2 != 0) with hb_160 | hb_160
                          · replace H := M.ite_t hb_160 H
                            refine reg_eq (rops := ro5_35) (by kernel_rfl) ?_
                            have hT : Tab ro5_35 _ _ _ := tab_of tb5_35 rfl (by kernel_rfl)
                            have hM := TabM.of tb5_35m
                            refine d_start (m := 30) (fun w : World => (fun h : Heap => True) w.heap) [0, 1, 2, 3, 4, 5, 6, 7, 8, 9, 10, 11, 12, 13, 14, 15, 16, 17, 18, 19, 20, 21, 22, 23, 24, 25, 26, 27, 28, 29] (unb 30 0) mo hR (by kernel_rfl) (by kernel_rfl) (fun w' e => by rw [e]; exact trivial) (fun w hh hR hs => ?_)
                            replace H := M.at hh H; clear hh
                            refine d_pureg (i := 0) (v := .int .i64 x102_122.2) (unb 30 1) rfl rfl hT (anyM hM (by kernel_rfl)) hE rfl (wanted_none rfl) (fun w => r_move hE rfl) (fun a hE => ?_)
                            refine d_pureg (i := 1) (v := .bool (x102_122.2 != 0)) (unb 30 3) rfl rfl hT (anyM hM (by kernel_rfl)) hE rfl (wanted_none rfl) (fun w => r_bin hE rfl rfl g_int b_neq) (fun a hE => ?_)
                            refine d_pureg (i := 2) (v := .bool (x102_122.2 != 0)) (unb 30 7) rfl rfl hT (anyM hM (by kernel_rfl)) hE rfl (wanted_none rfl) (fun w => r_move hE rfl) (fun a hE => ?_)
                            have hE := hE.reb 141 (x102_122.2 != 0) true hb_160 rfl
                            replace hE := hE.cut (l' := [(9, .pointer x25_3.1), (11, .pointer (some x11_11)), (12, .pointer (some x12_12)), (17, (x85_95 : Sl).v), (18, .int .i64 x18_105), (96, .int .i64 x96_106), (19, .int .i64 x96_106), (20, .pointer (some x20_123)), (141, .bool true)]) (.cons rfl (.cons rfl (.cons rfl (.cons rfl (.cons rfl (.cons rfl (.cons rfl (.cons rfl (.cons rfl Subs.nil)))))))))
                            refine d_offsM' [(3, some 142), (4, some 143), (5, some 144), (6, some 145), (7, some 146), (8, some 147), (9, some 148), (10, some 149), (11, some 150), (12, some 151), (13, some 152), (14, some 153)] 15 hT hM hE (by kernel_rfl) (m' := 32767) (by kernel_rfl) (fun a hE => ?_)
                            refine d_pureg (i := 15) (v := .bool true) (unb 30 65535) rfl rfl hT (anyM hM (by kernel_rfl)) hE rfl (wanted_none rfl) (fun w => r_pick_t hE rfl rfl) (fun a hE => ?_)
                            refine d_pureg (i := 16) (v := .bool true) (unb 30 131071) rfl rfl hT (anyM hM (by kernel_rfl)) hE rfl (wanted_none rfl) (fun w => r_move hE rfl) (fun a hE => ?_)
                            refine d_offsM' [(17, some 156), (18, some 157), (19, some 158), (20, some 159), (21, some 160), (22, some 161), (23, some 162), (24, some 163), (25, some 164), (26, some 165), (27, some 166)] 2 hT hM hE (by kernel_rfl) (m' := 268435455) (by kernel_rfl) (fun a hE => ?_)
                            refine d_pureg (i := 28) (v := .bool true) (unb 30 536870911) rfl rfl hT (anyM hM (by kernel_rfl)) hE rfl (wanted_none rfl) (fun w => r_pick_t hE rfl rfl) (fun a hE => ?_)
                            refine d_pureg (i := 29) (v := .bool true) (unb 30 1073741823) rfl rfl hT (anyM hM (by kernel_rfl)) hE rfl (wanted_none rfl) (fun w => r_assign hE rfl) (fun a hE => ?_)
                            refine d_done hT (doneM hM (by kernel_rfl)) ?_
                            exact ⟨true, hE.cut (.cons rfl (.cons rfl (.cons rfl (.cons rfl (.cons rfl (.cons rfl (.cons rfl Subs.nil))))))), hR, H⟩
                          · replace H := M.ite_f hb_160 H
                            obtain ⟨x144_161, qx144_161, H⟩ := H
                            obtain ⟨x142_162, qx142_162, H⟩ := H
                            obtain ⟨x145_163, qx145_163, H⟩ := H
                            obtain ⟨x146_164, qx146_164, H⟩ := H
                            rcases bool_em (!x146_164) with hb_165 | hb_165
                            · replace H := M.ite_t hb_165 H
                              obtain ⟨x150_166, qx150_166, H⟩ := H
                              obtain ⟨x148_167, qx148_167, H⟩ := H
                              obtain ⟨x151_168, qx151_168, H⟩ := H
                              obtain ⟨x152_169, qx152_169, H⟩ := H
                              rcases bool_em (!x152_169) with hb_170 | hb_170
                              · replace H := M.ite_t hb_170 H
                                refine reg_eq (rops := ro5_35) (by kernel_rfl) ?_
                                have hT : Tab ro5_35 _ _ _ := tab_of tb5_35 rfl (by kernel_rfl)
                                have hM := TabM.of tb5_35m
                                refine d_start (m := 30) (fun w : World => (fun h : Heap => (x142_162.size = 128 ∧ ∀ i, i < 128 → hcell h (Addr.add x20_123 i) = x142_162[i]?) ∧ (x145_163.size = 128 ∧ ∀ i, i < 128 → hcell h (Addr.add x144_161 i) = x145_163[i]?) ∧ (x148_167.size = 128 ∧ ∀ i, i < 128 → hcell h (Addr.add x20_123 i) = x148_167[i]?) ∧ (x151_168.size = 128 ∧ ∀ i, i < 128 → hcell h (Addr.add x150_166 i) = x151_168[i]?)) w.heap) [13, 14, 15, 16, 17, 18, 19, 20, 21, 22, 23, 24, 25, 26, 27, 28, 29] (unb 30 0) mo hR (by kernel_rfl) (by kernel_rfl) (fun w' e => by rw [e]; exact ⟨qx142_162, qx145_163, qx148_167, qx151_168⟩) (fun w hh hR hs => ?_)
                                replace H := M.at hh H; clear hh
                                refine d_pureg (i := 0) (v := .int .i64 x102_122.2) (unb 30 1) rfl rfl hT (anyM hM (by kernel_rfl)) hE rfl (wanted_none rfl) (fun w => r_move hE rfl) (fun a hE => ?_)
                                refine d_pureg (i := 1) (v := .bool (x102_122.2 != 0)) (unb 30 3) rfl rfl hT (anyM hM (by kernel_rfl)) hE rfl (wanted_none rfl) (fun w => r_bin hE rfl rfl g_int b_neq) (fun a hE => ?_)
                                refine d_pureg (i := 2) (v := .bool (x102_122.2 != 0)) (unb 30 7) rfl rfl hT (anyM hM (by kernel_rfl)) hE rfl (wanted_none rfl) (fun w => r_move hE rfl) (fun a hE => ?_)
                                have hE := hE.reb 141 (x102_122.2 != 0) false hb_160 rfl
                                replace hE := hE.cut (l' := [(9, .pointer x25_3.1), (11, .pointer (some x11_11)), (12, .pointer (some x12_12)), (17, (x85_95 : Sl).v), (18, .int .i64 x18_105), (96, .int .i64 x96_106), (19, .int .i64 x96_106), (20, .pointer (some x20_123)), (141, .bool false)]) (.cons rfl (.cons rfl (.cons rfl (.cons rfl (.cons rfl (.cons rfl (.cons rfl (.cons rfl (.cons rfl Subs.nil)))))))))
                                refine d_pureg (i := 4) (v := .int .i64 x96_106) (unb 30 23) rfl rfl hT (anyM hM (by kernel_rfl)) hE rfl (wanted_of rfl hE rfl rfl rfl) (fun w => r_move hE rfl) (fun a hE => ?_)
                                refine d_pureg (i := 5) (v := .pointer (some x144_161)) (unb 30 55) rfl rfl hT (anyM hM (by kernel_rfl)) hE rfl (wanted_of rfl hE rfl rfl rfl) (fun w => r_indexAddrA hE rfl rfl un48 sz47 qx144_161) (fun a hE => ?_)
                                refine d_read (i := 3) (v := .agg x142_162) (unb 30 63) rfl rfl hT (takeM hM (by kernel_rfl)) hE rfl (wanted_of rfl hE rfl rfl rfl) hs (fun w s => r_loadG hE rfl ag47 s.1) (fun a hE => ?_)
                                refine d_read (i := 6) (v := .agg x145_163) (unb 30 127) rfl rfl hT (takeM hM (by kernel_rfl)) hE rfl (wanted_of rfl hE rfl rfl rfl) hs (fun w s => r_loadG hE rfl ag47 s.2.1) (fun a hE => ?_)
                                refine d_pureg (i := 7) (v := .bool (!x146_164)) (unb 30 255) rfl rfl hT (anyM hM (by kernel_rfl)) hE rfl (wanted_of rfl hE rfl rfl rfl) (fun w => r_bin hE rfl rfl (g_agg eg47) (b_neqA un47 un5 sz5 qx146_164)) (fun a hE => ?_)
                                refine d_pureg (i := 8) (v := .bool (!x146_164)) (unb 30 511) rfl rfl hT (anyM hM (by kernel_rfl)) hE rfl (wanted_of rfl hE rfl rfl rfl) (fun w => r_move hE rfl) (fun a hE => ?_)
                                have hE := hE.reb 147 (!x146_164) true hb_165 rfl
                                replace hE := hE.cut (l' := [(9, .pointer x25_3.1), (11, .pointer (some x11_11)), (12, .pointer (some x12_12)), (17, (x85_95 : Sl).v), (18, .int .i64 x18_105), (96, .int .i64 x96_106), (19, .int .i64 x96_106), (20, .pointer (some x20_123)), (141, .bool false), (147, .bool true)]) (.cons rfl (.cons rfl (.cons rfl (.cons rfl (.cons rfl (.cons rfl (.cons rfl (.cons rfl (.cons rfl (.cons rfl Subs.nil))))))))))
                                refine d_pureg (i := 10) (v := .int .i64 x96_106) (unb 30 1535) rfl rfl hT (anyM hM (by kernel_rfl)) hE rfl (wanted_of rfl hE rfl rfl rfl) (fun w => r_move hE rfl) (fun a hE => ?_)
                                refine d_pureg (i := 11) (v := .pointer (some x150_166)) (unb 30 3583) rfl rfl hT (anyM hM (by kernel_rfl)) hE rfl (wanted_of rfl hE rfl rfl rfl) (fun w => r_indexAddrA hE rfl rfl un48 sz47 qx150_166) (fun a hE => ?_)
                                refine d_read (i := 9) (v := .agg x148_167) (unb 30 4095) rfl rfl hT (takeM hM (by kernel_rfl)) hE rfl (wanted_of rfl hE rfl rfl rfl) hs (fun w s => r_loadG hE rfl ag47 s.2.2.1) (fun a hE => ?_)
                                refine d_read (i := 12) (v := .agg x151_168) (unb 30 8191) rfl rfl hT (takeM hM (by kernel_rfl)) hE rfl (wanted_of rfl hE rfl rfl rfl) hs (fun w s => r_loadG hE rfl ag47 s.2.2.2) (fun a hE => ?_)
                                refine d_pureg (i := 13) (v := .bool (!x152_169)) (unb 30 16383) rfl rfl hT (anyM hM (by kernel_rfl)) hE rfl (wanted_of rfl hE rfl rfl rfl) (fun w => r_bin hE rfl rfl (g_agg eg47) (b_neqA un47 un5 sz5 qx152_169)) (fun a hE => ?_)
                                refine d_pureg (i := 14) (v := .bool (!x152_169)) (unb 30 32767) rfl rfl hT (anyM hM (by kernel_rfl)) hE rfl (wanted_of rfl hE rfl rfl rfl) (fun w => r_pick_t hE rfl rfl) (fun a hE => ?_)
                                refine d_pureg (i := 15) (v := .bool (!x152_169)) (unb 30 65535) rfl rfl hT (anyM hM (by kernel_rfl)) hE rfl (wanted_none rfl) (fun w => r_pick_f hE rfl rfl) (fun a hE => ?_)
                                refine d_pureg (i := 16) (v := .bool (!x152_169)) (unb 30 131071) rfl rfl hT (anyM hM (by kernel_rfl)) hE rfl (wanted_none rfl) (fun w => r_move hE rfl) (fun a hE => ?_)
                                have hE := hE.reb 155 (!x152_169) true hb_170 rfl
                                replace hE := hE.cut (l' := [(9, .pointer x25_3.1), (11, .pointer (some x11_11)), (12, .pointer (some x12_12)), (17, (x85_95 : Sl).v), (18, .int .i64 x18_105), (96, .int .i64 x96_106), (19, .int .i64 x96_106), (20, .pointer (some x20_123)), (155, .bool true)]) (.cons rfl (.cons rfl (.cons rfl (.cons rfl (.cons rfl (.cons rfl (.cons rfl (.cons rfl (.cons rfl Subs.nil)))))))))
                                refine d_offsM' [(17, some 156), (18, some 157), (19, some 158), (20, some 159), (21, some 160), (22, some 161), (23, some 162), (24, some 163), (25, some 164), (26, some 165), (27, some 166)] 2 hT hM hE (by kernel_rfl) (m' := 268435455) (by kernel_rfl) (fun a hE => ?_)
                                refine d_pureg (i := 28) (v := .bool true) (unb 30 536870911) rfl rfl hT (anyM hM (by kernel_rfl)) hE rfl (wanted_none rfl) (fun w => r_pick_t hE rfl rfl) (fun a hE => ?_)
                                refine d_pureg (i := 29) (v := .bool true) (unb 30 1073741823) rfl rfl hT (anyM hM (by kernel_rfl)) hE rfl (wanted_none rfl) (fun w => r_assign hE rfl) (fun a hE => ?_)
                                refine d_done hT (doneM hM (by kernel_rfl)) ?_
                                exact ⟨true, hE.cut (.cons rfl (.cons rfl (.cons rfl (.cons rfl (.cons rfl (.cons rfl (.cons rfl Subs.nil))))))), hR, H⟩
                              · replace H := M.ite_f hb_170 H
                                refine reg_eq (rops := ro5_35) (by kernel_rfl) ?_
                                have hT : Tab ro5_35 _ _ _ := tab_of tb5_35 rfl (by kernel_rfl)
                                have hM := TabM.of tb5_35m
                                refine d_start (m := 30) (fun w : World => (fun h : Heap => (x142_162.size = 128 ∧ ∀ i, i < 128 → hcell h (Addr.add x20_123 i) = x142_162[i]?) ∧ (x145_163.size = 128 ∧ ∀ i, i < 128 → hcell h (Addr.add x144_161 i) = x145_163[i]?) ∧ (x148_167.size = 128 ∧ ∀ i, i < 128 → hcell h (Addr.add x20_123 i) = x148_167[i]?) ∧ (x151_168.size = 128 ∧ ∀ i, i < 128 → hcell h (Addr.add x150_166 i) = x151_168[i]?)) w.heap) [13, 14, 15, 16, 17, 18, 19, 20, 21, 22, 23, 24, 25, 26, 27, 28, 29] (unb 30 0) mo hR (by kernel_rfl) (by kernel_rfl) (fun w' e => by rw [e]; exact ⟨qx142_162, qx145_163, qx148_167, qx151_168⟩) (fun w hh hR hs => ?_)
                                replace H := M.at hh H; clear hh
                                refine d_pureg (i := 0) (v := .int .i64 x102_122.2) (unb 30 1) rfl rfl hT (anyM hM (by kernel_rfl)) hE rfl (wanted_none rfl) (fun w => r_move hE rfl) (fun a hE => ?_)
                                refine d_pureg (i := 1) (v := .bool (x102_122.2 != 0)) (unb 30 3) rfl rfl hT (anyM hM (by kernel_rfl)) hE rfl (wanted_none rfl) (fun w => r_bin hE rfl rfl g_int b_neq) (fun a hE => ?_)
                                refine d_pureg (i := 2) (v := .bool (x102_122.2 != 0)) (unb 30 7) rfl rfl hT (anyM hM (by kernel_rfl)) hE rfl (wanted_none rfl) (fun w => r_move hE rfl) (fun a hE => ?_)
                                have hE := hE.reb 141 (x102_122.2 != 0) false hb_160 rfl
                                replace hE := hE.cut (l' := [(9, .pointer x25_3.1), (11, .pointer (some x11_11)), (12, .pointer (some x12_12)), (17, (x85_95 : Sl).v), (18, .int .i64 x18_105), (96, .int .i64 x96_106), (19, .int .i64 x96_106), (20, .pointer (some x20_123)), (141, .bool false)]) (.cons rfl (.cons rfl (.cons rfl (.cons rfl (.cons rfl (.cons rfl (.cons rfl (.cons rfl (.cons rfl Subs.nil)))))))))
                                refine d_pureg (i := 4) (v := .int .i64 x96_106) (unb 30 23) rfl rfl hT (anyM hM (by kernel_rfl)) hE rfl (wanted_of rfl hE rfl rfl rfl) (fun w => r_move hE rfl) (fun a hE => ?_)
                                refine d_pureg (i := 5) (v := .pointer (some x144_161)) (unb 30 55) rfl rfl hT (anyM hM (by kernel_rfl)) hE rfl (wanted_of rfl hE rfl rfl rfl) (fun w => r_indexAddrA hE rfl rfl un48 sz47 qx144_161) (fun a hE => ?_)
                                refine d_read (i := 3) (v := .agg x142_162) (unb 30 63) rfl rfl hT (takeM hM (by kernel_rfl)) hE rfl (wanted_of rfl hE rfl rfl rfl) hs (fun w s => r_loadG hE rfl ag47 s.1) (fun a hE => ?_)
                                refine d_read (i := 6) (v := .agg x145_163) (unb 30 127) rfl rfl hT (takeM hM (by kernel_rfl)) hE rfl (wanted_of rfl hE rfl rfl rfl) hs (fun w s => r_loadG hE rfl ag47 s.2.1) (fun a hE => ?_)
                                refine d_pureg (i := 7) (v := .bool (!x146_164)) (unb 30 255) rfl rfl hT (anyM hM (by kernel_rfl)) hE rfl (wanted_of rfl hE rfl rfl rfl) (fun w => r_bin hE rfl rfl (g_agg eg47) (b_neqA un47 un5 sz5 qx146_164)) (fun a hE => ?_)
                                refine d_pureg (i := 8) (v := .bool (!x146_164)) (unb 30 511) rfl rfl hT (anyM hM (by kernel_rfl)) hE rfl (wanted_of rfl hE rfl rfl rfl) (fun w => r_move hE rfl) (fun a hE => ?_)
                                have hE := hE.reb 147 (!x146_164) true hb_165 rfl
                                replace hE := hE.cut (l' := [(9, .pointer x25_3.1), (11, .pointer (some x11_11)), (12, .pointer (some x12_12)), (17, (x85_95 : Sl).v), (18, .int .i64 x18_105), (96, .int .i64 x96_106), (19, .int .i64 x96_106), (20, .pointer (some x20_123)), (141, .bool false), (147, .bool true)]) (.cons rfl (.cons rfl (.cons rfl (.cons rfl (.cons rfl (.cons rfl (.cons rfl (.cons rfl (.cons rfl (.cons rfl Subs.nil))))))))))
                                refine d_pureg (i := 10) (v := .int .i64 x96_106) (unb 30 1535) rfl rfl hT (anyM hM (by kernel_rfl)) hE rfl (wanted_of rfl hE rfl rfl rfl) (fun w => r_move hE rfl) (fun a hE => ?_)
                                refine d_pureg (i := 11) (v := .pointer (some x150_166)) (unb 30 3583) rfl rfl hT (anyM hM (by kernel_rfl)) hE rfl (wanted_of rfl hE rfl rfl rfl) (fun w => r_indexAddrA hE rfl rfl un48 sz47 qx150_166) (fun a hE => ?_)
                                refine d_read (i := 9) (v := .agg x148_167) (unb 30 4095) rfl rfl hT (takeM hM (by kernel_rfl)) hE rfl (wanted_of rfl hE rfl rfl rfl) hs (fun w s => r_loadG hE rfl ag47 s.2.2.1) (fun a hE => ?_)
                                refine d_read (i := 12) (v := .agg x151_168) (unb 30 8191) rfl rfl hT (takeM hM (by kernel_rfl)) hE rfl (wanted_of rfl hE rfl rfl rfl) hs (fun w s => r_loadG hE rfl ag47 s.2.2.2) (fun a hE => ?_)
                                refine d_pureg (i := 13) (v := .bool (!x152_169)) (unb 30 16383) rfl rfl hT (anyM hM (by kernel_rfl)) hE rfl (wanted_of rfl hE rfl rfl rfl) (fun w => r_bin hE rfl rfl (g_agg eg47) (b_neqA un47 un5 sz5 qx152_169)) (fun a hE => ?_)
                                refine d_pureg (i := 14) (v := .bool (!x152_169)) (unb 30 32767) rfl rfl hT (anyM hM (by kernel_rfl)) hE rfl (wanted_of rfl hE rfl rfl rfl) (fun w => r_pick_t hE rfl rfl) (fun a hE => ?_)
                                refine d_pureg (i := 15) (v := .bool (!x152_169)) (unb 30 65535) rfl rfl hT (anyM hM (by kernel_rfl)) hE rfl (wanted_none rfl) (fun w => r_pick_f hE rfl rfl) (fun a hE => ?_)
                                refine d_pureg (i := 16) (v := .bool (!x152_169)) (unb 30 131071) rfl rfl hT (anyM hM (by kernel_rfl)) hE rfl (wanted_none rfl) (fun w => r_move hE rfl) (fun a hE => ?_)
                                have hE := hE.reb 155 (!x152_169) false hb_170 rfl
                                replace hE := hE.cut (l' := [(9, .pointer x25_3.1), (11, .pointer (some x11_11)), (12, .pointer (some x12_12)), (17, (x85_95 : Sl).v), (18, .int .i64 x18_105), (96, .int .i64 x96_106), (19, .int .i64 x96_106), (20, .pointer (some x20_123)), (155, .bool false)]) (.cons rfl (.cons rfl (.cons rfl (.cons rfl (.cons rfl (.cons rfl (.cons rfl (.cons rfl (.cons rfl Subs.nil)))))))))
                                refine d_pureg (i := 17) (v := (x85_95 : Sl).v) (unb 30 262143) rfl rfl hT (anyM hM (by kernel_rfl)) hE rfl (wanted_of rfl hE rfl rfl rfl) (fun w => r_move hE rfl) (fun a hE => ?_)
                                refine d_pureg (i := 18) (v := .int .i64 x96_106) (unb 30 524287) rfl rfl hT (anyM hM (by kernel_rfl)) hE rfl (wanted_of rfl hE rfl rfl rfl) (fun w => r_move hE rfl) (fun a hE => ?_)
                                refine d_calll (i := 19) (unb 30 1048575) rfl rfl rfl hT (oneM hM (by kernel_rfl)) rfl hE hR (wanted_of rfl hE rfl rfl rfl) cl_slices_Contains_slint_int rfl (S_slices_Contains_slint_int x85_95 x96_106) (M.unbind H) (fun x158_171 a w ea hR H => ?_)
                                have hE := Env.put_some hE rfl ea; clear ea
                                rcases bool_em (!x158_171) with hb_172 | hb_172
                                · replace H := M.ite_t hb_172 H
                                  obtain ⟨x163_173, qx163_173, H⟩ := H
                                  obtain ⟨x161_174, qx161_174, H⟩ := H
                                  obtain ⟨x164_175, qx164_175, H⟩ := H
                                  obtain ⟨x165_176, qx165_176, H⟩ := H
                                  refine d_switch (fun w : World => (fun h : Heap => (x161_174.size = 128 ∧ ∀ i, i < 128 → hcell h (Addr.add x20_123 i) = x161_174[i]?) ∧ (x164_175.size = 128 ∧ ∀ i, i < 128 → hcell h (Addr.add x163_173 i) = x164_175[i]?)) w.heap) [26, 27, 28, 29] (allInM hT hM (by kernel_rfl)) ?_
                                  have hs : (fun h : Heap => (x161_174.size = 128 ∧ ∀ i, i < 128 → hcell h (Addr.add x20_123 i) = x161_174[i]?) ∧ (x164_175.size = 128 ∧ ∀ i, i < 128 → hcell h (Addr.add x163_173 i) = x164_175[i]?)) w.heap := ⟨qx161_174, qx164_175⟩
                                  refine d_pureg (i := 20) (v := .bool (!x158_171)) (unb 30 2097151) rfl rfl hT (anyM hM (by kernel_rfl)) hE rfl (wanted_of rfl hE rfl rfl rfl) (fun w => r_un hE rfl u_not) (fun a hE => ?_)
                                  refine d_pureg (i := 21) (v := .bool (!x158_171)) (unb 30 4194303) rfl rfl hT (anyM hM (by kernel_rfl)) hE rfl (wanted_of rfl hE rfl rfl rfl) (fun w => r_move hE rfl) (fun a hE => ?_)
                                  have hE := hE.reb 160 (!x158_171) true hb_172 rfl
                                  replace hE := hE.cut (l' := [(9, .pointer x25_3.1), (11, .pointer (some x11_11)), (12, .pointer (some x12_12)), (17, (x85_95 : Sl).v), (18, .int .i64 x18_105), (96, .int .i64 x96_106), (19, .int .i64 x96_106), (20, .pointer (some x20_123)), (155, .bool false), (160, .bool true)]) (.cons rfl (.cons rfl (.cons rfl (.cons rfl (.cons rfl (.cons rfl (.cons rfl (.cons rfl (.cons rfl (.cons rfl Subs.nil))))))))))
                                  refine d_pureg (i := 23) (v := .int .i64 x96_106) (unb 30 12582911) rfl rfl hT (anyM hM (by kernel_rfl)) hE rfl (wanted_of rfl hE rfl rfl rfl) (fun w => r_move hE rfl) (fun a hE => ?_)
                                  refine d_pureg (i := 24) (v := .pointer (some x163_173)) (unb 30 29360127) rfl rfl hT (anyM hM (by kernel_rfl)) hE rfl (wanted_of rfl hE rfl rfl rfl) (fun w => r_indexAddrA hE rfl rfl un48 sz47 qx163_173) (fun a hE => ?_)
                                  refine d_read (i := 22) (v := .agg x161_174) (unb 30 33554431) rfl rfl hT (takeM hM (by kernel_rfl)) hE rfl (wanted_of rfl hE rfl rfl rfl) hs (fun w s => r_loadG hE rfl ag47 s.1) (fun a hE => ?_)
                                  refine d_read (i := 25) (v := .agg x164_175) (unb 30 67108863) rfl rfl hT (takeM hM (by kernel_rfl)) hE rfl (wanted_of rfl hE rfl rfl rfl) hs (fun w s => r_loadG hE rfl ag47 s.2) (fun a hE => ?_)
                                  refine d_pureg (i := 26) (v := .bool (!x165_176)) (unb 30 134217727) rfl rfl hT (anyM hM (by kernel_rfl)) hE rfl (wanted_of rfl hE rfl rfl rfl) (fun w => r_bin hE rfl rfl (g_agg eg47) (b_neqA un47 un5 sz5 qx165_176)) (fun a hE => ?_)
                                  refine d_pureg (i := 27) (v := .bool (!x165_176)) (unb 30 268435455) rfl rfl hT (anyM hM (by kernel_rfl)) hE rfl (wanted_of rfl hE rfl rfl rfl) (fun w => r_pick_t hE rfl rfl) (fun a hE => ?_)
                                  refine d_pureg (i := 28) (v := .bool (!x165_176)) (unb 30 536870911) rfl rfl hT (anyM hM (by kernel_rfl)) hE rfl (wanted_none rfl) (fun w => r_pick_f hE rfl rfl) (fun a hE => ?_)
                                  refine d_pureg (i := 29) (v := .bool (!x165_176)) (unb 30 1073741823) rfl rfl hT (anyM hM (by kernel_rfl)) hE rfl (wanted_none rfl) (fun w => r_assign hE rfl) (fun a hE => ?_)
                                  refine d_done hT (doneM hM (by kernel_rfl)) ?_
                                  exact ⟨!x165_176, hE.cut (.cons rfl (.cons rfl (.cons rfl (.cons rfl (.cons rfl (.cons rfl (.cons rfl Subs.nil))))))), hR, H⟩
                                · replace H := M.ite_f hb_172 H
                                  refine d_pureg (i := 20) (v := .bool (!x158_171)) (unb 30 2097151) rfl rfl hT (anyM hM (by kernel_rfl)) hE rfl (wanted_of rfl hE rfl rfl rfl) (fun w => r_un hE rfl u_not) (fun a hE => ?_)
                                  refine d_pureg (i := 21) (v := .bool (!x158_171)) (unb 30 4194303) rfl rfl hT (anyM hM (by kernel_rfl)) hE rfl (wanted_of rfl hE rfl rfl rfl) (fun w => r_move hE rfl) (fun a hE => ?_)
                                  have hE := hE.reb 160 (!x158_171) false hb_172 rfl
                                  replace hE := hE.cut (l' := [(9, .pointer x25_3.1), (11, .pointer (some x11_11)), (12, .pointer (some x12_12)), (17, (x85_95 : Sl).v), (18, .int .i64 x18_105), (96, .int .i64 x96_106), (19, .int .i64 x96_106), (20, .pointer (some x20_123)), (155, .bool false), (160, .bool false)]) (.cons rfl (.cons rfl (.cons rfl (.cons rfl (.cons rfl (.cons rfl (.cons rfl (.cons rfl (.cons rfl (.cons rfl Subs.nil))))))))))
                                  refine d_offsM' [(22, some 161), (23, some 162), (24, some 163), (25, some 164), (26, some 165)] 3 hT hM hE (by kernel_rfl) (m' := 134217727) (by kernel_rfl) (fun a hE => ?_)
                                  refine d_pureg (i := 27) (v := .bool false) (unb 30 268435455) rfl rfl hT (anyM hM (by kernel_rfl)) hE rfl (wanted_of rfl hE rfl rfl rfl) (fun w => r_pick_f hE rfl rfl) (fun a hE => ?_)
                                  refine d_pureg (i := 28) (v := .bool false) (unb 30 536870911) rfl rfl hT (anyM hM (by kernel_rfl)) hE rfl (wanted_none rfl) (fun w => r_pick_f hE rfl rfl) (fun a hE => ?_)
                                  refine d_pureg (i := 29) (v := .bool false) (unb 30 1073741823) rfl rfl hT (anyM hM (by kernel_rfl)) hE rfl (wanted_none rfl) (fun w => r_assign hE rfl) (fun a hE => ?_)
                                  refine d_done hT (doneM hM (by kernel_rfl)) ?_
                                  exact ⟨false, hE.cut (.cons rfl (.cons rfl (.cons rfl (.cons rfl (.cons rfl (.cons rfl (.cons rfl Subs.nil))))))), hR, H⟩
                            · replace H := M.ite_f hb_165 H
                              refine reg_eq (rops := ro5_35) (by kernel_rfl) ?_
                              have hT : Tab ro5_35 _ _ _ := tab_of tb5_35 rfl (by kernel_rfl)
                              have hM := TabM.of tb5_35m
                              refine d_start (m := 30) (fun w : World => (fun h : Heap => (x142_162.size = 128 ∧ ∀ i, i < 128 → hcell h (Addr.add x20_123 i) = x142_162[i]?) ∧ (x145_163.size = 128 ∧ ∀ i, i < 128 → hcell h (Addr.add x144_161 i) = x145_163[i]?)) w.heap) [7, 8, 9, 10, 11, 12, 13, 14, 15, 16, 17, 18, 19, 20, 21, 22, 23, 24, 25, 26, 27, 28, 29] (unb 30 0) mo hR (by kernel_rfl) (by kernel_rfl) (fun w' e => by rw [e]; exact ⟨qx142_162, qx145_163⟩) (fun w hh hR hs => ?_)
                              replace H := M.at hh H; clear hh
                              refine d_pureg (i := 0) (v := .int .i64 x102_122.2) (unb 30 1) rfl rfl hT (anyM hM (by kernel_rfl)) hE rfl (wanted_none rfl) (fun w => r_move hE rfl) (fun a hE => ?_)
                              refine d_pureg (i := 1) (v := .bool (x102_122.2 != 0)) (unb 30 3) rfl rfl hT (anyM hM (by kernel_rfl)) hE rfl (wanted_none rfl) (fun w => r_bin hE rfl rfl g_int b_neq) (fun a hE => ?_)
                              refine d_pureg (i := 2) (v := .bool (x102_122.2 != 0)) (unb 30 7) rfl rfl hT (anyM hM (by kernel_rfl)) hE rfl (wanted_none rfl) (fun w => r_move hE rfl) (fun a hE => ?_)
                              have hE := hE.reb 141 (x102_122.2 != 0) false hb_160 rfl
                              replace hE := hE.cut (l' := [(9, .pointer x25_3.1), (11, .pointer (some x11_11)), (12, .pointer (some x12_12)), (17, (x85_95 : Sl).v), (18, .int .i64 x18_105), (96, .int .i64 x96_106), (19, .int .i64 x96_106), (20, .pointer (some x20_123)), (141, .bool false)]) (.cons rfl (.cons rfl (.cons rfl (.cons rfl (.cons rfl (.cons rfl (.cons rfl (.cons rfl (.cons rfl Subs.nil)))))))))
                              refine d_pureg (i := 4) (v := .int .i64 x96_106) (unb 30 23) rfl rfl hT (anyM hM (by kernel_rfl)) hE rfl (wanted_of rfl hE rfl rfl rfl) (fun w => r_move hE rfl) (fun a hE => ?_)
                              refine d_pureg (i := 5) (v := .pointer (some x144_161)) (unb 30 55) rfl rfl hT (anyM hM (by kernel_rfl)) hE rfl (wanted_of rfl hE rfl rfl rfl) (fun w => r_indexAddrA hE rfl rfl un48 sz47 qx144_161) (fun a hE => ?_)
                              refine d_read (i := 3) (v := .agg x142_162) (unb 30 63) rfl rfl hT (takeM hM (by kernel_rfl)) hE rfl (wanted_of rfl hE rfl rfl rfl) hs (fun w s => r_loadG hE rfl ag47 s.1) (fun a hE => ?_)
                              refine d_read (i := 6) (v := .agg x145_163) (unb 30 127) rfl rfl hT (takeM hM (by kernel_rfl)) hE rfl (wanted_of rfl hE rfl rfl rfl) hs (fun w s => r_loadG hE rfl ag47 s.2) (fun a hE => ?_)
                              refine d_pureg (i := 7) (v := .bool (!x146_164)) (unb 30 255) rfl rfl hT (anyM hM (by kernel_rfl)) hE rfl (wanted_of rfl hE rfl rfl rfl) (fun w => r_bin hE rfl rfl (g_agg eg47) (b_neqA un47 un5 sz5 qx146_164)) (fun a hE => ?_)
                              refine d_pureg (i := 8) (v := .bool (!x146_164)) (unb 30 511) rfl rfl hT (anyM hM (by kernel_rfl)) hE rfl (wanted_of rfl hE rfl rfl rfl) (fun w => r_move hE rfl) (fun a hE => ?_)
                              have hE := hE.reb 147 (!x146_164) false hb_165 rfl
                              replace hE := hE.cut (l' := [(9, .pointer x25_3.1), (11, .pointer (some x11_11)), (12, .pointer (some x12_12)), (17, (x85_95 : Sl).v), (18, .int .i64 x18_105), (96, .int .i64 x96_106), (19, .int .i64 x96_106), (20, .pointer (some x20_123)), (141, .bool false), (147, .bool false)]) (.cons rfl (.cons rfl (.cons rfl (.cons rfl (.cons rfl (.cons rfl (.cons rfl (.cons rfl (.cons rfl (.cons rfl Subs.nil))))))))))
                              refine d_offsM' [(9, some 148), (10, some 149), (11, some 150), (12, some 151), (13, some 152)] 16 hT hM hE (by kernel_rfl) (m' := 16383) (by kernel_rfl) (fun a hE => ?_)
                              refine d_pureg (i := 14) (v := .bool false) (unb 30 32767) rfl rfl hT (anyM hM (by kernel_rfl)) hE rfl (wanted_of rfl hE rfl rfl rfl) (fun w => r_pick_f hE rfl rfl) (fun a hE => ?_)
                              refine d_pureg (i := 15) (v := .bool false) (unb 30 65535) rfl rfl hT (anyM hM (by kernel_rfl)) hE rfl (wanted_none rfl) (fun w => r_pick_f hE rfl rfl) (fun a hE => ?_)
                              refine d_pureg (i := 16) (v := .bool false) (unb 30 131071) rfl rfl hT (anyM hM (by kernel_rfl)) hE rfl (wanted_none rfl) (fun w => r_move hE rfl) (fun a hE => ?_)
                              refine d_pureg (i := 17) (v := (x85_95 : Sl).v) (unb 30 262143) rfl rfl hT (anyM hM (by kernel_rfl)) hE rfl (wanted_of rfl hE rfl rfl rfl) (fun w => r_move hE rfl) (fun a hE => ?_)
                              refine d_pureg (i := 18) (v := .int .i64 x96_106) (unb 30 524287) rfl rfl hT (anyM hM (by kernel_rfl)) hE rfl (wanted_of rfl hE rfl rfl rfl) (fun w => r_move hE rfl) (fun a hE => ?_)
                              refine d_calll (i := 19) (unb 30 1048575) rfl rfl rfl hT (oneM hM (by kernel_rfl)) rfl hE hR (wanted_of rfl hE rfl rfl rfl) cl_slices_Contains_slint_int rfl (S_slices_Contains_slint_int x85_95 x96_106) (M.unbind H) (fun x158_177 a w ea hR H => ?_)
                              have hE := Env.put_some hE rfl ea; clear ea
                              rcases bool_em (!x158_177) with hb_178 | hb_178
                              · replace H := M.ite_t hb_178 H
                                obtain ⟨x163_179, qx163_179, H⟩ := H
                                obtain ⟨x161_180, qx161_180, H⟩ := H
                                obtain ⟨x164_181, qx164_181, H⟩ := H
                                obtain ⟨x165_182, qx165_182, H⟩ := H
                                refine d_switch (fun w : World => (fun h : Heap => (x161_180.size = 128 ∧ ∀ i, i < 128 → hcell h (Addr.add x20_123 i) = x161_180[i]?) ∧ (x164_181.size = 128 ∧ ∀ i, i < 128 → hcell h (Addr.add x163_179 i) = x164_181[i]?)) w.heap) [26, 27, 28, 29] (allInM hT hM (by kernel_rfl)) ?_
                                have hs : (fun h : Heap => (x161_180.size = 128 ∧ ∀ i, i < 128 → hcell h (Addr.add x20_123 i) = x161_180[i]?) ∧ (x164_181.size = 128 ∧ ∀ i, i < 128 → hcell h (Addr.add x163_179 i) = x164_181[i]?)) w.heap := ⟨qx161_180, qx164_181⟩
                                refine d_pureg (i := 20) (v := .bool (!x158_177)) (unb 30 2097151) rfl rfl hT (anyM hM (by kernel_rfl)) hE rfl (wanted_of rfl hE rfl rfl rfl) (fun w => r_un hE rfl u_not) (fun a hE => ?_)
                                refine d_pureg (i := 21) (v := .bool (!x158_177)) (unb 30 4194303) rfl rfl hT (anyM hM (by kernel_rfl)) hE rfl (wanted_of rfl hE rfl rfl rfl) (fun w => r_move hE rfl) (fun a hE => ?_)
                                have hE := hE.reb 160 (!x158_177) true hb_178 rfl
                                replace hE := hE.cut (l' := [(9, .pointer x25_3.1), (11, .pointer (some x11_11)), (12, .pointer (some x12_12)), (17, (x85_95 : Sl).v), (18, .int .i64 x18_105), (96, .int .i64 x96_106), (19, .int .i64 x96_106), (20, .pointer (some x20_123)), (155, .bool false), (160, .bool true)]) (.cons rfl (.cons rfl (.cons rfl (.cons rfl (.cons rfl (.cons rfl (.cons rfl (.cons rfl (.cons rfl (.cons rfl Subs.nil))))))))))
                                refine d_pureg (i := 23) (v := .int .i64 x96_106) (unb 30 12582911) rfl rfl hT (anyM hM (by kernel_rfl)) hE rfl (wanted_of rfl hE rfl rfl rfl) (fun w => r_move hE rfl) (fun a hE => ?_)
                                refine d_pureg (i := 24) (v := .pointer (some x163_179)) (unb 30 29360127) rfl rfl hT (anyM hM (by kernel_rfl)) hE rfl (wanted_of rfl hE rfl rfl rfl) (fun w => r_indexAddrA hE rfl rfl un48 sz47 qx163_179) (fun a hE => ?_)
                                refine d_read (i := 22) (v := .agg x161_180) (unb 30 33554431) rfl rfl hT (takeM hM (by kernel_rfl)) hE rfl (wanted_of rfl hE rfl rfl rfl) hs (fun w s => r_loadG hE rfl ag47 s.1) (fun a hE => ?_)
                                refine d_read (i := 25) (v := .agg x164_181) (unb 30 67108863) rfl rfl hT (takeM hM (by kernel_rfl)) hE rfl (wanted_of rfl hE rfl rfl rfl) hs (fun w s => r_loadG hE rfl ag47 s.2) (fun a hE => ?_)
                                refine d_pureg (i := 26) (v := .bool (!x165_182)) (unb 30 134217727) rfl rfl hT (anyM hM (by kernel_rfl)) hE rfl (wanted_of rfl hE rfl rfl rfl) (fun w => r_bin hE rfl rfl (g_agg eg47) (b_neqA un47 un5 sz5 qx165_182)) (fun a hE => ?_)
                                refine d_pureg (i := 27) (v := .bool (!x165_182)) (unb 30 268435455) rfl rfl hT (anyM hM (by kernel_rfl)) hE rfl (wanted_of rfl hE rfl rfl rfl) (fun w => r_pick_t hE rfl rfl) (fun a hE => ?_)
                                refine d_pureg (i := 28) (v := .bool (!x165_182)) (unb 30 536870911) rfl rfl hT (anyM hM (by kernel_rfl)) hE rfl (wanted_none rfl) (fun w => r_pick_f hE rfl rfl) (fun a hE => ?_)
                                refine d_pureg (i := 29) (v := .bool (!x165_182)) (unb 30 1073741823) rfl rfl hT (anyM hM (by kernel_rfl)) hE rfl (wanted_none rfl) (fun w => r_assign hE rfl) (fun a hE => ?_)
                                refine d_done hT (doneM hM (by kernel_rfl)) ?_
                                exact ⟨!x165_182, hE.cut (.cons rfl (.cons rfl (.cons rfl (.cons rfl (.cons rfl (.cons rfl (.cons rfl Subs.nil))))))), hR, H⟩
                              · replace H := M.ite_f hb_178 H
                                refine d_pureg (i := 20) (v := .bool (!x158_177)) (unb 30 2097151) rfl rfl hT (anyM hM (by kernel_rfl)) hE rfl (wanted_of rfl hE rfl rfl rfl) (fun w => r_un hE rfl u_not) (fun a hE => ?_)
                                refine d_pureg (i := 21) (v := .bool (!x158_177)) (unb 30 4194303) rfl rfl hT (anyM hM (by kernel_rfl)) hE rfl (wanted_of rfl hE rfl rfl rfl) (fun w => r_move hE rfl) (fun a hE => ?_)
                                have hE := hE.reb 160 (!x158_177) false hb_178 rfl
                                replace hE := hE.cut (l' := [(9, .pointer x25_3.1), (11, .pointer (some x11_11)), (12, .pointer (some x12_12)), (17, (x85_95 : Sl).v), (18, .int .i64 x18_105), (96, .int .i64 x96_106), (19, .int .i64 x96_106), (20, .pointer (some x20_123)), (155, .bool false), (160, .bool false)]) (.cons rfl (.cons rfl (.cons rfl (.cons rfl (.cons rfl (.cons rfl (.cons rfl (.cons rfl (.cons rfl (.cons rfl Subs.nil))))))))))
                                refine d_offsM' [(22, some 161), (23, some 162), (24, some 163), (25, some 164), (26, some 165)] 3 hT hM hE (by kernel_rfl) (m' := 134217727) (by kernel_rfl) (fun a hE => ?_)
                                refine d_pureg (i := 27) (v := .bool false) (unb 30 268435455) rfl rfl hT (anyM hM (by kernel_rfl)) hE rfl (wanted_of rfl hE rfl rfl rfl) (fun w => r_pick_f hE rfl rfl) (fun a hE => ?_)
                                refine d_pureg (i := 28) (v := .bool false) (unb 30 536870911) rfl rfl hT (anyM hM (by kernel_rfl)) hE rfl (wanted_none rfl) (fun w => r_pick_f hE rfl rfl) (fun a hE => ?_)
                                refine d_pureg (i := 29) (v := .bool false) (unb 30 1073741823) rfl rfl hT (anyM hM (by kernel_rfl)) hE rfl (wanted_none rfl) (fun w => r_assign hE rfl) (fun a hE => ?_)
                                refine d_done hT (doneM hM (by kernel_rfl)) ?_
                                exact ⟨false, hE.cut (.cons rfl (.cons rfl (.cons rfl (.cons rfl (.cons rfl (.cons rfl (.cons rfl Subs.nil))))))), hR, H⟩
                  · replace H := M.ite_f hb H
                    refine w_exit ?_
                    refine Xu.same ?_
                    refine hK_103 _ _ ?_
                    refine w_seq (fun K hK_183 => ?_)
                    refine t_region ?_
                    refine t_val (v := .int .i64 x18_105) rfl rfl hE rfl (r_move hE rfl) (fun a hE => ?_)
                    refine t_val (v := .bool (decide (x18_105 ≤ 1))) rfl rfl hE rfl (r_bin hE rfl rfl g_int b_leq) (fun a hE => ?_)
                    refine t_val (v := .bool (decide (x18_105 ≤ 1))) rfl rfl hE rfl (r_assign hE rfl) (fun a hE => ?_)
                    refine t_nil ?_
                    refine hK_183 _ _ ?_
                    refine w_ret ?_
                    exact hret _ _ _ (decide (x18_105 ≤ 1)) _ hE hR (res_run hE rfl (RV.tmp rfl RV.nil)) rfl H

end Gx
namespace Gx
open Go
set_option linter.unusedVariables false
set_option maxRecDepth 100000
/-- (*ramble/disk.Disk).SetFuse -/
def disk_Disk_SetFuse (x0 : Option Addr) (x1 : Int) : M (Int) := do
  let x7_4 ← disk_Disk_can x0
  M.ite (x7_4 != 0) (do
    M.pure x7_4
    ) (do
    M.ite (decide (x1 < 0)) (do
      M.pure 1
      ) (do
      let x15_11 ← nilP x0
      stV ((x15_11).add 4) (.int .i64 x1)
      M.pure 0
      )
    )
theorem S_disk_Disk_SetFuse (x0 : Option Addr) (x1 : Int) : Sound Go.Proofs.Try.prog 29 #[.pointer x0, .int .i64 x1] (fun (r : Int) => .int .i64 r) (disk_Disk_SetFuse x0 x1) := by
  refine sound_of [(0, .pointer x0), (1, .int .i64 x1)] Go.Proofs.Try.func29 rfl rfl (Nat.le_of_ble_eq_true rfl) (args_of ⟨rfl, rfl, trivial⟩) (fun w0 w Q R a hret hE hR H => ?_)
  unfold disk_Disk_SetFuse at H
  refine w_seq (fun K hK_1 => ?_)
  refine t_region ?_
  refine t_val (v := .int .i64 0) rfl rfl hE rfl (r_assign hE rfl) (fun a hE => ?_)
  refine t_nil ?_
  refine hK_1 _ _ ?_
  refine w_seq (fun K hK_2 => ?_)
  refine w_seq (fun K hK_3 => ?_)
  refine t_region ?_
  refine t_val (v := .pointer x0) rfl rfl hE rfl (r_move hE rfl) (fun a hE => ?_)
  refine t_call hE hR cl_disk_Disk_can rfl (S_disk_Disk_can x0) (M.unbind H) (fun x7_4 a w ea hR H => ?_)
  have hE := Env.put_some hE rfl ea; clear ea
  refine t_val (v := .int .i64 x7_4) rfl rfl hE rfl (r_assign hE rfl) (fun a hE => ?_)
  refine t_nil ?_
  refine hK_3 _ _ ?_
  refine w_seq (fun K hK_5 => ?_)
  refine t_region ?_
  refine t_val (v := .int .i64 x7_4) rfl rfl hE rfl (r_move hE rfl) (fun a hE => ?_)
  refine t_val (v := .bool (x7_4 != 0)) rfl rfl hE rfl (r_bin hE rfl rfl g_int b_neq) (fun a hE => ?_)
  refine t_nil ?_
  refine hK_5 _ _ ?_
  refine w_cond (x7_4 != 0) hE rfl (fun hb => ?_) (fun hb => ?_)
  · replace H := M.ite_t hb H
    refine w_seq (fun K hK_6 => ?_)
    refine t_region ?_
    refine t_val (v := .int .i64 x7_4) rfl rfl hE rfl (r_move hE rfl) (fun a hE => ?_)
    refine t_val (v := .int .i64 x7_4) rfl rfl hE rfl (r_assign hE rfl) (fun a hE => ?_)
    refine t_nil ?_
    refine hK_6 _ _ ?_
    refine w_ret ?_
    exact hret _ _ _ x7_4 _ hE hR (res_run hE rfl (RV.tmp rfl RV.nil)) rfl H
  · replace H := M.ite_f hb H
    refine w_skip ?_
    refine hK_2 _ _ ?_
    refine w_seq (fun K hK_7 => ?_)
    refine w_seq (fun K hK_8 => ?_)
    refine t_region ?_
    refine t_val (v := .int .i64 x1) rfl rfl hE rfl (r_move hE rfl) (fun a hE => ?_)
    refine t_val (v := .bool (decide (x1 < 0))) rfl rfl hE rfl (r_bin hE rfl rfl g_int b_lss) (fun a hE => ?_)
    refine t_nil ?_
    refine hK_8 _ _ ?_
    refine w_cond (decide (x1 < 0)) hE rfl (fun hb => ?_) (fun hb => ?_)
    · replace H := M.ite_t hb H
      refine w_seq (fun K hK_9 => ?_)
      refine t_region ?_
      refine t_val (v := .int .i64 1) rfl rfl hE rfl (r_assign hE rfl) (fun a hE => ?_)
      refine t_nil ?_
      refine hK_9 _ _ ?_
      refine w_ret ?_
      exact hret _ _ _ 1 _ hE hR (res_run hE rfl (RV.tmp rfl RV.nil)) rfl H
    · replace H := M.ite_f hb H
      refine w_skip ?_
      refine hK_7 _ _ ?_
      refine w_seq (fun K hK_10 => ?_)
      refine t_region ?_
      refine t_val (v := .pointer x0) rfl rfl hE rfl (r_move hE rfl) (fun a hE => ?_)
      refine t_val (v := .int .i64 x1) rfl rfl hE rfl (r_move hE rfl) (fun a hE => ?_)
      obtain ⟨x15_11, qx15_11, H⟩ := H
      refine t_val (v := .pointer (some x15_11)) rfl rfl hE rfl (r_nilCheck hE (hx_eq rfl (congrArg Value.pointer qx15_11))) (fun a hE => ?_)
      refine t_val (v := .pointer (some ((x15_11).add 4))) rfl rfl hE rfl (r_fieldAddr hE rfl fd66_4) (fun a hE => ?_)
      obtain ⟨u_12, qu_12, H⟩ := H
      refine t_sth rfl rfl hE hR (r_store hE rfl rfl sz3 qu_12) (fun a w hE hR hh => ?_)
      replace H := M.at hh H; clear hh
      refine t_nil ?_
      refine hK_10 _ _ ?_
      refine w_seq (fun K hK_13 => ?_)
      refine t_region ?_
      refine t_val (v := .int .i64 0) rfl rfl hE rfl (r_assign hE rfl) (fun a hE => ?_)
      refine t_nil ?_
      refine hK_13 _ _ ?_
      refine w_ret ?_
      exact hret _ _ _ 0 _ hE hR (res_run hE rfl (RV.tmp rfl RV.nil)) rfl H

/-- (*ramble/disk.Disk).Calls -/
def disk_Disk_Calls (x0 : Option Addr) : M (Int) := do
  let x4_4 ← disk_Disk_none x0
  M.ite x4_4 (do
    M.pure 0
    ) (do
    let x6_7 ← nilP x0
    let x8_8 ← ldI .i64 ((x6_7).add 5)
    M.pure x8_8
    )
theorem S_disk_Disk_Calls (x0 : Option Addr) : Sound Go.Proofs.Try.prog 30 #[.pointer x0] (fun (r : Int) => .int .i64 r) (disk_Disk_Calls x0) := by
  refine sound_of [(0, .pointer x0)] Go.Proofs.Try.func30 rfl rfl (Nat.le_of_ble_eq_true rfl) (args_of ⟨rfl, trivial⟩) (fun w0 w Q R a hret hE hR H => ?_)
  unfold disk_Disk_Calls at H
  refine w_seq (fun K hK_1 => ?_)
  refine t_region ?_
  refine t_val (v := .int .i64 0) rfl rfl hE rfl (r_assign hE rfl) (fun a hE => ?_)
  refine t_nil ?_
  refine hK_1 _ _ ?_
  refine w_seq (fun K hK_2 => ?_)
  refine w_seq (fun K hK_3 => ?_)
  refine t_region ?_
  refine t_val (v := .pointer x0) rfl rfl hE rfl (r_move hE rfl) (fun a hE => ?_)
  refine t_call hE hR cl_disk_Disk_none rfl (S_disk_Disk_none x0) (M.unbind H) (fun x4_4 a w ea hR H => ?_)
  have hE := Env.put_some hE rfl ea; clear ea
  refine t_nil ?_
  refine hK_3 _ _ ?_
  refine w_cond x4_4 hE rfl (fun hb => ?_) (fun hb => ?_)
  · replace H := M.ite_t hb H
    refine w_seq (fun K hK_5 => ?_)
    refine t_region ?_
    refine t_val (v := .int .i64 0) rfl rfl hE rfl (r_assign hE rfl) (fun a hE => ?_)
    refine t_nil ?_
    refine hK_5 _ _ ?_
    refine w_ret ?_
    exact hret _ _ _ 0 _ hE hR (res_run hE rfl (RV.tmp rfl RV.nil)) rfl H
  · replace H := M.ite_f hb H
    refine w_skip ?_
    refine hK_2 _ _ ?_
    refine w_seq (fun K hK_6 => ?_)
    refine t_region ?_
    refine t_val (v := .pointer x0) rfl rfl hE rfl (r_move hE rfl) (fun a hE => ?_)
    obtain ⟨x6_7, qx6_7, H⟩ := H
    refine t_val (v := .pointer (some x6_7)) rfl rfl hE rfl (r_nilCheck hE (hx_eq rfl (congrArg Value.pointer qx6_7))) (fun a hE => ?_)
    refine t_val (v := .pointer (some ((x6_7).add 5))) rfl rfl hE rfl (r_fieldAddr hE rfl fd66_5) (fun a hE => ?_)
    obtain ⟨x8_8, qx8_8, H⟩ := H
    refine t_val (v := .int .i64 x8_8) rfl rfl hE rfl (r_load hE rfl sc2 qx8_8) (fun a hE => ?_)
    refine t_val (v := .int .i64 x8_8) rfl rfl hE rfl (r_assign hE rfl) (fun a hE => ?_)
    refine t_nil ?_
    refine hK_6 _ _ ?_
    refine w_ret ?_
    exact hret _ _ _ x8_8 _ hE hR (res_run hE rfl (RV.tmp rfl RV.nil)) rfl H

/-- ramble/ramblelaw04.DiskAway -/
def ramblelaw04_DiskAway_j1 (self1 : (Int) → M (Bool)) (c0_33 : Int) (c5_34 : Option Addr) (c9_35 : Int) (c10_36 : Bool) (c37_39 : Int) (x11_32 : Int) : M (Bool) := do
  let x62_42 ← M.ite c10_36 (do
    M.pure (x11_32 != 9)
    ) (do
    M.pure false
    )
  let x72_43 ← M.ite x62_42 (do
    M.pure true
    ) (do
    let x67_44 ← disk_Disk_Calls c5_34
    M.pure ((x11_32 == 0) != ((IntKind.wrap .i64 (x67_44 - c9_35)) == 1))
    )
  let x81_45 ← M.ite x72_43 (do
    M.pure true
    ) (do
    let x80_46 ← M.ite (x11_32 != 0) (do
      let x78_47 ← disk_Disk_Down c5_34
      M.pure (!x78_47)
      ) (do
      M.pure false
      )
    M.pure x80_46
    )
  M.ite x81_45 (do
    M.pure false
    ) (do
    let x87_50 ← M.ite (!c10_36) (do
      let x86_51 ← disk_Disk_Down c5_34
      M.pure x86_51
      ) (do
      M.pure false
      )
    let x99_52 ← M.ite x87_50 (do
      let x98_53 ← M.ite (c0_33 == 0) (do
        M.pure true
        ) (do
        let x93_54 ← disk_Disk_Calls c5_34
        M.pure (x93_54 != (IntKind.wrap .i64 ((IntKind.wrap .i64 c0_33) - 1)))
        )
      M.pure x98_53
      ) (do
      M.pure false
      )
    M.ite x99_52 (do
      M.pure false
      ) (do
      self1 (IntKind.wrap .i64 (c37_39 + 1))
      )
    )
theorem tb6_11 : tabAt Go.Proofs.Try.f6 11 [[], [], [1], [2], [], [4], [5], [0, 3, 6, 6], [7, 7, 0, 1, 2, 3, 4, 5, 6, 7]] [[], [], [1], [2], [], [4], [5], [0, 3, 6], [7]] [[], [], [1], [1, 2], [], [4], [4, 5], [0, 1, 2, 3, 4, 5, 6], [0, 1, 2, 3, 4, 5, 6, 7]] = true := by kernel_rfl
def ramblelaw04_DiskAway_l1 (c0_15 : Int) (c5_16 : Option Addr) (c35_17 : Sl) (c36_18 : Int) (self1 : (Int) → M (Bool)) : (Int) → M (Bool) := fun s => match s with
  | x37_14 => do
    M.ite (decide (x37_14 < c36_18)) (do
      let x39_24 ← ixL c35_17 x37_14 6
      let x40_25 ← ldG 6 x39_24
      let x8_26 ← mkB ty_ramblelaw04_Op (#[.int .i64 0, .int .i64 0, .int .u8 0, .slice none 0 0, .int .i64 0, .int .u32 0] : Array Value)
      M.need (x40_25.size = 6)
      stG x8_26 x40_25
      let x42_29 ← disk_Disk_Calls c5_16
      let x44_30 ← disk_Disk_Down c5_16
      let x46_57 ← ldI .i64 ((x8_26).add 0)
      M.ite (x46_57 == 2) (do
        let x49_58 ← disk_Disk_Flush c5_16
        ramblelaw04_DiskAway_j1 self1 c0_15 c5_16 x42_29 x44_30 x37_14 x49_58
        ) (do
        let x52_59 ← ldI .i64 ((x8_26).add 1)
        let x55_60 ← ldI .u8 ((x8_26).add 2)
        let x56_61 ← ramblelaw04_filled x55_60
        chk (fun h : Heap => (hcell h ((x8_26).add 1) = some (.int .i64 x52_59)) ∧ (hcell h ((x8_26).add 2) = some (.int .u8 x55_60)))
        let x57_62 ← disk_Disk_Write c5_16 (iAnd .i64 x52_59 7) x56_61
        ramblelaw04_DiskAway_j1 self1 c0_15 c5_16 x42_29 x44_30 x37_14 x57_62
        )
      ) (do
      let x102_65 ← disk_Disk_Down c5_16
      M.ite x102_65 (do
        let x105_67 ← disk_Disk_Read c5_16 0
        let x12_68 ← mkB ty_api_Sector (Array.replicate 128 (.int .u8 0) : Array Value)
        M.need (x105_67.1.size = 128)
        stG x12_68 x105_67.1
        let x114_71 ← M.ite (x105_67.2 == 9) (do
          let x112_72 ← disk_Disk_Flush c5_16
          M.pure (x112_72 == 9)
          ) (do
          M.pure false
          )
        M.pure x114_71
        ) (do
        let x123_74 ← M.ite (c0_15 == 0) (do
          M.pure true
          ) (do
          let x119_75 ← disk_Disk_Calls c5_16
          M.pure (decide (x119_75 < (IntKind.wrap .i64 c0_15)))
          )
        M.pure x123_74
        )
      )
def ramblelaw04_DiskAway (x0 : Int) (x1 : Sl) : M (Bool) := do
  let x15_3 ← disk_New 8
  let x18_6 ← ramblelaw04_begun
  let x23_7 ← M.ite (!x18_6) (do
    M.pure true
    ) (do
    M.pure ((x15_3.1).isNone)
    )
  let x27_8 ← M.ite x23_7 (do
    M.pure true
    ) (do
    M.pure (x15_3.2 != 0)
    )
  let x34_9 ← M.ite x27_8 (do
    M.pure true
    ) (do
    let x32_10 ← disk_Disk_SetFuse x15_3.1 (IntKind.wrap .i64 x0)
    M.pure (x32_10 != 0)
    )
  M.ite x34_9 (do
    M.pure false
    ) (do
    M.loop (ramblelaw04_DiskAway_l1 x0 x15_3.1 x1 (x1.len : Int)) 0
    )
theorem S_ramblelaw04_DiskAway (x0 : Int) (x1 : Sl) : Sound Go.Proofs.Try.prog 6 #[.int .u8 x0, (x1 : Sl).v] (fun (r : Bool) => .bool r) (ramblelaw04_DiskAway x0 x1) := by
  refine sound_of [(0, .int .u8 x0), (1, (x1 : Sl).v)] Go.Proofs.Try.func6 rfl rfl (Nat.le_of_ble_eq_true rfl) (args_of ⟨rfl, rfl, trivial⟩) (fun w0 w Q R a hret hE hR H => ?_)
  unfold ramblelaw04_DiskAway at H
  refine w_seq (fun K hK_1 => ?_)
  refine t_region ?_
  refine t_val (v := .bool false) rfl rfl hE rfl (r_assign hE rfl) (fun a hE => ?_)
  refine t_nil ?_
  refine hK_1 _ _ ?_
  refine w_seq (fun K hK_2 => ?_)
  refine t_region ?_
  refine t_call hE hR cl_disk_New rfl (S_disk_New 8) (M.unbind H) (fun x15_3 a w ea hR H => ?_)
  have hE := Env.put_some hE rfl ea; clear ea
  refine t_val (v := .tuple #[.pointer x15_3.1, .int .i64 x15_3.2]) rfl rfl hE rfl (r_move hE rfl) (fun a hE => ?_)
  refine t_val (v := .pointer x15_3.1) rfl rfl hE rfl (r_extract hE rfl rfl) (fun a hE => ?_)
  refine t_val (v := .int .i64 x15_3.2) rfl rfl hE rfl (r_extract hE rfl rfl) (fun a hE => ?_)
  refine t_val (v := .pointer x15_3.1) rfl rfl hE rfl (r_assign hE rfl) (fun a hE => ?_)
  refine t_val (v := .int .i64 x15_3.2) rfl rfl hE rfl (r_assign hE rfl) (fun a hE => ?_)
  refine t_nil ?_
  refine hK_2 _ _ ?_
  refine w_seq (fun K hK_4 => ?_)
  refine w_seq (fun K hK_5 => ?_)
  refine t_region ?_
  refine t_call hE hR cl_ramblelaw04_begun rfl (S_ramblelaw04_begun ) (M.unbind H) (fun x18_6 a w ea hR H => ?_)
  have hE := Env.put_some hE rfl ea; clear ea
  refine t_val (v := .bool (!x18_6)) rfl rfl hE rfl (r_un hE rfl u_not) (fun a hE => ?_)
  refine t_val (v := .bool (!x18_6)) rfl rfl hE rfl (r_move hE rfl) (fun a hE => ?_)
  refine t_grp (n := (⟨124, []⟩ : Frm)) (w0 := w0) 3 (fun x23_7 : Bool => [(0, .int .u8 x0), (1, (x1 : Sl).v), (5, .pointer x15_3.1), (6, .int .i64 x15_3.2), (23, .bool x23_7)]) (M.unbind H) (fun Kr hKr H => ?_) ?_
  · rcases bool_em (!x18_6) with hb | hb
    · replace H := M.ite_t hb H
      have hE := hE.reb 20 (!x18_6) true hb rfl
      refine t_off rfl hE rfl rfl rfl (fun a ea => ?_)
      have hE := Env.put_some hE rfl ea; clear ea
      refine t_off rfl hE rfl rfl rfl (fun a ea => ?_)
      have hE := Env.put_some hE rfl ea; clear ea
      refine t_val rfl rfl hE rfl (r_pick_t hE rfl rfl) (fun a hE => ?_)
      refine t_nil ?_
      exact hKr _ _ _ (hE.cut (.cons rfl (.cons rfl (.cons rfl (.cons rfl (.cons rfl Subs.nil)))))) hR H
    · replace H := M.ite_f hb H
      have hE := hE.reb 20 (!x18_6) false hb rfl
      refine t_on rfl hE rfl rfl rfl ?_
      refine t_val (v := .pointer x15_3.1) rfl rfl hE rfl (r_move hE rfl) (fun a hE => ?_)
      refine t_on rfl hE rfl rfl rfl ?_
      refine t_val (v := .bool ((x15_3.1).isNone)) rfl rfl hE rfl (r_bin hE rfl rfl g_ptr (b_eqlP un23)) (fun a hE => ?_)
      refine t_val rfl rfl hE rfl (r_pick_f hE rfl rfl) (fun a hE => ?_)
      refine t_nil ?_
      exact hKr _ _ _ (hE.cut (.cons rfl (.cons rfl (.cons rfl (.cons rfl (.cons rfl Subs.nil)))))) hR H
  · intro x23_7 a w hE hR H
    refine t_val (v := .bool x23_7) rfl rfl hE rfl (r_move hE rfl) (fun a hE => ?_)
    refine t_grp (n := (⟨124, []⟩ : Frm)) (w0 := w0) 3 (fun x27_8 : Bool => [(0, .int .u8 x0), (1, (x1 : Sl).v), (5, .pointer x15_3.1), (27, .bool x27_8)]) (M.unbind H) (fun Kr hKr H => ?_) ?_
    · rcases bool_em x23_7 with hb | hb
      · replace H := M.ite_t hb H
        have hE := hE.reb 24 x23_7 true hb rfl
        refine t_off rfl hE rfl rfl rfl (fun a ea => ?_)
        have hE := Env.put_some hE rfl ea; clear ea
        refine t_off rfl hE rfl rfl rfl (fun a ea => ?_)
        have hE := Env.put_some hE rfl ea; clear ea
        refine t_val rfl rfl hE rfl (r_pick_t hE rfl rfl) (fun a hE => ?_)
        refine t_nil ?_
        exact hKr _ _ _ (hE.cut (.cons rfl (.cons rfl (.cons rfl (.cons rfl Subs.nil))))) hR H
      · replace H := M.ite_f hb H
        have hE := hE.reb 24 x23_7 false hb rfl
        refine t_on rfl hE rfl rfl rfl ?_
        refine t_val (v := .int .i64 x15_3.2) rfl rfl hE rfl (r_move hE rfl) (fun a hE => ?_)
        refine t_on rfl hE rfl rfl rfl ?_
        refine t_val (v := .bool (x15_3.2 != 0)) rfl rfl hE rfl (r_bin hE rfl rfl g_int b_neq) (fun a hE => ?_)
        refine t_val rfl rfl hE rfl (r_pick_f hE rfl rfl) (fun a hE => ?_)
        refine t_nil ?_
        exact hKr _ _ _ (hE.cut (.cons rfl (.cons rfl (.cons rfl (.cons rfl Subs.nil))))) hR H
    · intro x27_8 a w hE hR H
      refine t_val (v := .bool x27_8) rfl rfl hE rfl (r_move hE rfl) (fun a hE => ?_)
      refine t_grp (n := (⟨124, []⟩ : Frm)) (w0 := w0) 6 (fun x34_9 : Bool => [(0, .int .u8 x0), (1, (x1 : Sl).v), (5, .pointer x15_3.1), (34, .bool x34_9)]) (M.unbind H) (fun Kr hKr H => ?_) ?_
      · rcases bool_em x27_8 with hb | hb
        · replace H := M.ite_t hb H
          have hE := hE.reb 28 x27_8 true hb rfl
          refine t_off rfl hE rfl rfl rfl (fun a ea => ?_)
          have hE := Env.put_some hE rfl ea; clear ea
          refine t_off rfl hE rfl rfl rfl (fun a ea => ?_)
          have hE := Env.put_some hE rfl ea; clear ea
          refine t_off rfl hE rfl rfl rfl (fun a ea => ?_)
          have hE := Env.put_some hE rfl ea; clear ea
          refine t_off rfl hE rfl rfl rfl (fun a ea => ?_)
          have hE := Env.put_some hE rfl ea; clear ea
          refine t_off rfl hE rfl rfl rfl (fun a ea => ?_)
          have hE := Env.put_some hE rfl ea; clear ea
          refine t_val rfl rfl hE rfl (r_pick_t hE rfl rfl) (fun a hE => ?_)
          refine t_nil ?_
          exact hKr _ _ _ (hE.cut (.cons rfl (.cons rfl (.cons rfl (.cons rfl Subs.nil))))) hR H
        · replace H := M.ite_f hb H
          have hE := hE.reb 28 x27_8 false hb rfl
          refine t_on rfl hE rfl rfl rfl ?_
          refine t_val (v := .pointer x15_3.1) rfl rfl hE rfl (r_move hE rfl) (fun a hE => ?_)
          refine t_on rfl hE rfl rfl rfl ?_
          refine t_val (v := .int .u8 x0) rfl rfl hE rfl (r_move hE rfl) (fun a hE => ?_)
          refine t_on rfl hE rfl rfl rfl ?_
          refine t_val (v := .int .i64 (IntKind.wrap .i64 x0)) rfl rfl hE rfl (r_convI hE rfl un5 un3) (fun a hE => ?_)
          refine t_on rfl hE rfl rfl rfl ?_
          refine t_call hE hR cl_disk_Disk_SetFuse rfl (S_disk_Disk_SetFuse x15_3.1 (IntKind.wrap .i64 x0)) (M.unbind H) (fun x32_10 a w ea hR H => ?_)
          have hE := Env.put_some hE rfl ea; clear ea
          refine t_on rfl hE rfl rfl rfl ?_
          refine t_val (v := .bool (x32_10 != 0)) rfl rfl hE rfl (r_bin hE rfl rfl g_int b_neq) (fun a hE => ?_)
          refine t_val rfl rfl hE rfl (r_pick_f hE rfl rfl) (fun a hE => ?_)
          refine t_nil ?_
          exact hKr _ _ _ (hE.cut (.cons rfl (.cons rfl (.cons rfl (.cons rfl Subs.nil))))) hR H
      · intro x34_9 a w hE hR H
        refine t_nil ?_
        refine hK_5 _ _ ?_
        refine w_cond x34_9 hE rfl (fun hb => ?_) (fun hb => ?_)
        · replace H := M.ite_t hb H
          refine w_seq (fun K hK_11 => ?_)
          refine t_region ?_
          refine t_val (v := .bool false) rfl rfl hE rfl (r_assign hE rfl) (fun a hE => ?_)
          refine t_nil ?_
          refine hK_11 _ _ ?_
          refine w_ret ?_
          exact hret _ _ _ false _ hE hR (res_run hE rfl (RV.tmp rfl RV.nil)) rfl H
        · replace H := M.ite_f hb H
          refine w_skip ?_
          refine hK_4 _ _ ?_
          refine w_seq (fun K hK_12 => ?_)
          refine w_seq (fun K hK_13 => ?_)
          refine t_region ?_
          refine t_val (v := (x1 : Sl).v) rfl rfl hE rfl (r_move hE rfl) (fun a hE => ?_)
          refine t_val (v := .int .i64 (x1.len : Int)) rfl rfl hE rfl (r_len hE rfl 51 un44) (fun a hE => ?_)
          refine t_val (v := .int .i64 0) rfl rfl hE rfl (r_move hE rfl) (fun a hE => ?_)
          refine t_nil ?_
          refine hK_13 _ _ ?_
          refine w_block ?_
          refine l_loop (fun (s : Int) => (⟨124, []⟩ : Frm)) (fun (s : Int) => [(0, .int .u8 x0), (5, .pointer x15_3.1), (35, (x1 : Sl).v), (36, .int .i64 (x1.len : Int)), (37, .int .i64 s)]) H (hE.cut (.cons rfl (.cons rfl (.cons rfl (.cons rfl (.cons rfl Subs.nil)))))) hR (fun Y self1 hY_19 x37_14 a w hE hR H => ?_)
          replace hE : Env (⟨124, []⟩ : Frm) a [(0, .int .u8 x0), (5, .pointer x15_3.1), (35, (x1 : Sl).v), (36, .int .i64 (x1.len : Int)), (37, .int .i64 x37_14)] := hE
          replace H : (ramblelaw04_DiskAway_l1 x0 x15_3.1 x1 (x1.len : Int) self1 x37_14).wp w.heap Q := H
          unfold ramblelaw04_DiskAway_l1 at H
          refine w_seq (fun K hK_20 => ?_)
          refine t_region ?_
          refine t_val (v := .bool (decide (x37_14 < (x1.len : Int)))) rfl rfl hE rfl (r_bin hE rfl rfl g_int b_lss) (fun a hE => ?_)
          refine t_nil ?_
          refine hK_20 _ _ ?_
          refine w_seq (fun K hK_21 => ?_)
          refine w_cond (decide (x37_14 < (x1.len : Int))) hE rfl (fun hb => ?_) (fun hb => ?_)
          · replace H := M.ite_t hb H
            refine w_skip ?_
            refine hK_21 _ _ ?_
            refine w_seq (fun K hK_22 => ?_)
            refine w_block ?_
            refine w_seq (fun K hK_23 => ?_)
            refine t_region ?_
            obtain ⟨x39_24, qx39_24, H⟩ := H
            refine t_val (v := .pointer (some x39_24)) rfl rfl hE rfl (r_indexAddrL hE rfl rfl un44 sz51 qx39_24) (fun a hE => ?_)
            obtain ⟨x40_25, qx40_25, H⟩ := H
            refine t_val (v := .agg x40_25) rfl rfl hE rfl (r_loadG hE rfl ag51 qx40_25) (fun a hE => ?_)
            obtain ⟨x8_26, qx8_26, H⟩ := H
            refine t_valh (v := .pointer (some x8_26)) rfl rfl hE rfl hR (r_alloc zr51 qx8_26) (fun a w hE hR hh => ?_)
            replace H := M.at hh H; clear hh
            obtain ⟨qz, H⟩ := H
            obtain ⟨u_27, qu_27, H⟩ := H
            refine t_sth rfl rfl hE hR (r_storeG hE rfl rfl sz51 qz qu_27) (fun a w hE hR hh => ?_)
            replace H := M.at hh H; clear hh
            refine t_nil ?_
            refine hK_23 _ _ ?_
            refine w_seq (fun K hK_28 => ?_)
            refine t_region ?_
            refine t_val (v := .pointer x15_3.1) rfl rfl hE rfl (r_move hE rfl) (fun a hE => ?_)
            refine t_call hE hR cl_disk_Disk_Calls rfl (S_disk_Disk_Calls x15_3.1) (M.unbind H) (fun x42_29 a w ea hR H => ?_)
            have hE := Env.put_some hE rfl ea; clear ea
            refine t_val (v := .pointer x15_3.1) rfl rfl hE rfl (r_move hE rfl) (fun a hE => ?_)
            refine t_call hE hR cl_disk_Disk_Down rfl (S_disk_Disk_Down x15_3.1) (M.unbind H) (fun x44_30 a w ea hR H => ?_)
            have hE := Env.put_some hE rfl ea; clear ea
            refine t_val (v := .int .i64 x42_29) rfl rfl hE rfl (r_assign hE rfl) (fun a hE => ?_)
            refine t_val (v := .bool x44_30) rfl rfl hE rfl (r_assign hE rfl) (fun a hE => ?_)
            refine t_nil ?_
            refine hK_28 _ _ ?_
            refine w_seq (fun K hK_31 => ?_)
            refine t_region ?_
            refine t_val (v := .int .i64 0) rfl rfl hE rfl (r_assign hE rfl) (fun a hE => ?_)
            refine t_nil ?_
            refine hK_31 _ _ ?_
            refine w_seq_join (fun a w => ∃ (x11_32 : Int), Env (⟨124, []⟩ : Frm) a [(0, .int .u8 x0), (5, .pointer x15_3.1), (9, .int .i64 x42_29), (10, .bool x44_30), (35, (x1 : Sl).v), (36, .int .i64 (x1.len : Int)), (37, .int .i64 x37_14), (11, .int .i64 x11_32)] ∧ Rest w0 w ∧ (ramblelaw04_DiskAway_j1 self1 x0 x15_3.1 x42_29 x44_30 x37_14 x11_32).wp w.heap Q) ?_ ?_
            · rintro a w ⟨x11_32, hE, hR, H⟩
              unfold ramblelaw04_DiskAway_j1 at H
              refine w_seq (fun K hK_40 => ?_)
              refine w_seq (fun K hK_41 => ?_)
              refine t_region ?_
              refine t_val (v := .bool x44_30) rfl rfl hE rfl (r_move hE rfl) (fun a hE => ?_)
              refine t_val (v := .bool x44_30) rfl rfl hE rfl (r_move hE rfl) (fun a hE => ?_)
              refine t_grp (n := (⟨124, []⟩ : Frm)) (w0 := w0) 3 (fun x62_42 : Bool => [(0, .int .u8 x0), (5, .pointer x15_3.1), (9, .int .i64 x42_29), (10, .bool x44_30), (35, (x1 : Sl).v), (36, .int .i64 (x1.len : Int)), (37, .int .i64 x37_14), (11, .int .i64 x11_32), (62, .bool x62_42)]) (M.unbind H) (fun Kr hKr H => ?_) ?_
              · rcases bool_em x44_30 with hb | hb
                · replace H := M.ite_t hb H
                  have hE := hE.reb 59 x44_30 true hb rfl
                  refine t_on rfl hE rfl rfl rfl ?_
                  refine t_val (v := .int .i64 x11_32) rfl rfl hE rfl (r_move hE rfl) (fun a hE => ?_)
                  refine t_on rfl hE rfl rfl rfl ?_
                  refine t_val (v := .bool (x11_32 != 9)) rfl rfl hE rfl (r_bin hE rfl rfl g_int b_neq) (fun a hE => ?_)
                  refine t_val rfl rfl hE rfl (r_pick_t hE rfl rfl) (fun a hE => ?_)
                  refine t_nil ?_
                  exact hKr _ _ _ (hE.cut (.cons rfl (.cons rfl (.cons rfl (.cons rfl (.cons rfl (.cons rfl (.cons rfl (.cons rfl (.cons rfl Subs.nil)))))))))) hR H
                · replace H := M.ite_f hb H
                  have hE := hE.reb 59 x44_30 false hb rfl
                  refine t_off rfl hE rfl rfl rfl (fun a ea => ?_)
                  have hE := Env.put_some hE rfl ea; clear ea
                  refine t_off rfl hE rfl rfl rfl (fun a ea => ?_)
                  have hE := Env.put_some hE rfl ea; clear ea
                  refine t_val rfl rfl hE rfl (r_pick_f hE rfl rfl) (fun a hE => ?_)
                  refine t_nil ?_
                  exact hKr _ _ _ (hE.cut (.cons rfl (.cons rfl (.cons rfl (.cons rfl (.cons rfl (.cons rfl (.cons rfl (.cons rfl (.cons rfl Subs.nil)))))))))) hR H
              · intro x62_42 a w hE hR H
                refine t_val (v := .bool x62_42) rfl rfl hE rfl (r_move hE rfl) (fun a hE => ?_)
                refine t_grp (n := (⟨124, []⟩ : Frm)) (w0 := w0) 9 (fun x72_43 : Bool => [(0, .int .u8 x0), (5, .pointer x15_3.1), (10, .bool x44_30), (35, (x1 : Sl).v), (36, .int .i64 (x1.len : Int)), (37, .int .i64 x37_14), (11, .int .i64 x11_32), (72, .bool x72_43)]) (M.unbind H) (fun Kr hKr H => ?_) ?_
                · rcases bool_em x62_42 with hb | hb
                  · replace H := M.ite_t hb H
                    have hE := hE.reb 63 x62_42 true hb rfl
                    refine t_off rfl hE rfl rfl rfl (fun a ea => ?_)
                    have hE := Env.put_some hE rfl ea; clear ea
                    refine t_off rfl hE rfl rfl rfl (fun a ea => ?_)
                    have hE := Env.put_some hE rfl ea; clear ea
                    refine t_off rfl hE rfl rfl rfl (fun a ea => ?_)
                    have hE := Env.put_some hE rfl ea; clear ea
                    refine t_off rfl hE rfl rfl rfl (fun a ea => ?_)
                    have hE := Env.put_some hE rfl ea; clear ea
                    refine t_off rfl hE rfl rfl rfl (fun a ea => ?_)
                    have hE := Env.put_some hE rfl ea; clear ea
                    refine t_off rfl hE rfl rfl rfl (fun a ea => ?_)
                    have hE := Env.put_some hE rfl ea; clear ea
                    refine t_off rfl hE rfl rfl rfl (fun a ea => ?_)
                    have hE := Env.put_some hE rfl ea; clear ea
                    refine t_off rfl hE rfl rfl rfl (fun a ea => ?_)
                    have hE := Env.put_some hE rfl ea; clear ea
                    refine t_val rfl rfl hE rfl (r_pick_t hE rfl rfl) (fun a hE => ?_)
                    refine t_nil ?_
                    exact hKr _ _ _ (hE.cut (.cons rfl (.cons rfl (.cons rfl (.cons rfl (.cons rfl (.cons rfl (.cons rfl (.cons rfl Subs.nil))))))))) hR H
                  · replace H := M.ite_f hb H
                    have hE := hE.reb 63 x62_42 false hb rfl
                    refine t_on rfl hE rfl rfl rfl ?_
                    refine t_val (v := .int .i64 x11_32) rfl rfl hE rfl (r_move hE rfl) (fun a hE => ?_)
                    refine t_on rfl hE rfl rfl rfl ?_
                    refine t_val (v := .bool (x11_32 == 0)) rfl rfl hE rfl (r_bin hE rfl rfl g_int b_eql) (fun a hE => ?_)
                    refine t_on rfl hE rfl rfl rfl ?_
                    refine t_val (v := .pointer x15_3.1) rfl rfl hE rfl (r_move hE rfl) (fun a hE => ?_)
                    refine t_on rfl hE rfl rfl rfl ?_
                    refine t_call hE hR cl_disk_Disk_Calls rfl (S_disk_Disk_Calls x15_3.1) (M.unbind H) (fun x67_44 a w ea hR H => ?_)
                    have hE := Env.put_some hE rfl ea; clear ea
                    refine t_on rfl hE rfl rfl rfl ?_
                    refine t_val (v := .int .i64 x42_29) rfl rfl hE rfl (r_move hE rfl) (fun a hE => ?_)
                    refine t_on rfl hE rfl rfl rfl ?_
                    refine t_val (v := .int .i64 (IntKind.wrap .i64 (x67_44 - x42_29))) rfl rfl hE rfl (r_bin hE rfl rfl g_int b_sub) (fun a hE => ?_)
                    refine t_on rfl hE rfl rfl rfl ?_
                    refine t_val (v := .bool ((IntKind.wrap .i64 (x67_44 - x42_29)) == 1)) rfl rfl hE rfl (r_bin hE rfl rfl g_int b_eql) (fun a hE => ?_)
                    refine t_on rfl hE rfl rfl rfl ?_
                    refine t_val (v := .bool ((x11_32 == 0) != ((IntKind.wrap .i64 (x67_44 - x42_29)) == 1))) rfl rfl hE rfl (r_bin hE rfl rfl g_bool (b_neqB un4)) (fun a hE => ?_)
                    refine t_val rfl rfl hE rfl (r_pick_f hE rfl rfl) (fun a hE => ?_)
                    refine t_nil ?_
                    exact hKr _ _ _ (hE.cut (.cons rfl (.cons rfl (.cons rfl (.cons rfl (.cons rfl (.cons rfl (.cons rfl (.cons rfl Subs.nil))))))))) hR H
                · intro x72_43 a w hE hR H
                  refine t_val (v := .bool x72_43) rfl rfl hE rfl (r_move hE rfl) (fun a hE => ?_)
                  refine t_grp (n := (⟨124, []⟩ : Frm)) (w0 := w0) 8 (fun x81_45 : Bool => [(0, .int .u8 x0), (5, .pointer x15_3.1), (10, .bool x44_30), (35, (x1 : Sl).v), (36, .int .i64 (x1.len : Int)), (37, .int .i64 x37_14), (81, .bool x81_45)]) (M.unbind H) (fun Kr hKr H => ?_) ?_
                  · rcases bool_em x72_43 with hb | hb
                    · replace H := M.ite_t hb H
                      have hE := hE.reb 73 x72_43 true hb rfl
                      refine t_off rfl hE rfl rfl rfl (fun a ea => ?_)
                      have hE := Env.put_some hE rfl ea; clear ea
                      refine t_off rfl hE rfl rfl rfl (fun a ea => ?_)
                      have hE := Env.put_some hE rfl ea; clear ea
                      refine t_off rfl hE rfl rfl rfl (fun a ea => ?_)
                      have hE := Env.put_some hE rfl ea; clear ea
                      refine t_off' rfl hE rfl rfl (fun b hb => by cases hb) (fun a ea => ?_)
                      have hE := Env.put_some hE rfl ea; clear ea
                      refine t_off' rfl hE rfl rfl (fun b hb => by cases hb) (fun a ea => ?_)
                      have hE := Env.put_some hE rfl ea; clear ea
                      refine t_off' rfl hE rfl rfl (fun b hb => by cases hb) (fun a ea => ?_)
                      have hE := Env.put_some hE rfl ea; clear ea
                      refine t_off rfl hE rfl rfl rfl (fun a ea => ?_)
                      have hE := Env.put_some hE rfl ea; clear ea
                      refine t_val rfl rfl hE rfl (r_pick_t hE rfl rfl) (fun a hE => ?_)
                      refine t_nil ?_
                      exact hKr _ _ _ (hE.cut (.cons rfl (.cons rfl (.cons rfl (.cons rfl (.cons rfl (.cons rfl (.cons rfl Subs.nil)))))))) hR H
                    · replace H := M.ite_f hb H
                      have hE := hE.reb 73 x72_43 false hb rfl
                      refine t_on rfl hE rfl rfl rfl ?_
                      refine t_val (v := .int .i64 x11_32) rfl rfl hE rfl (r_move hE rfl) (fun a hE => ?_)
                      refine t_on rfl hE rfl rfl rfl ?_
                      refine t_val (v := .bool (x11_32 != 0)) rfl rfl hE rfl (r_bin hE rfl rfl g_int b_neq) (fun a hE => ?_)
                      refine t_on rfl hE rfl rfl rfl ?_
                      refine t_val (v := .bool (x11_32 != 0)) rfl rfl hE rfl (r_move hE rfl) (fun a hE => ?_)
                      refine t_grp (n := (⟨124, []⟩ : Frm)) (w0 := w0) 4 (fun x80_46 : Bool => [(0, .int .u8 x0), (5, .pointer x15_3.1), (10, .bool x44_30), (35, (x1 : Sl).v), (36, .int .i64 (x1.len : Int)), (37, .int .i64 x37_14), (73, .bool false), (80, .bool x80_46)]) (M.unbind H) (fun Kr hKr H => ?_) ?_
                      · rcases bool_em (x11_32 != 0) with hb | hb
                        · replace H := M.ite_t hb H
                          have hE := hE.reb 76 (x11_32 != 0) true hb rfl
                          refine t_on rfl hE rfl rfl rfl ?_
                          refine t_val (v := .pointer x15_3.1) rfl rfl hE rfl (r_move hE rfl) (fun a hE => ?_)
                          refine t_on rfl hE rfl rfl rfl ?_
                          refine t_call hE hR cl_disk_Disk_Down rfl (S_disk_Disk_Down x15_3.1) (M.unbind H) (fun x78_47 a w ea hR H => ?_)
                          have hE := Env.put_some hE rfl ea; clear ea
                          refine t_on rfl hE rfl rfl rfl ?_
                          refine t_val (v := .bool (!x78_47)) rfl rfl hE rfl (r_un hE rfl u_not) (fun a hE => ?_)
                          refine t_on rfl hE rfl rfl rfl ?_
                          refine t_val rfl rfl hE rfl (r_pick_t hE rfl rfl) (fun a hE => ?_)
                          refine t_nil ?_
                          exact hKr _ _ _ (hE.cut (.cons rfl (.cons rfl (.cons rfl (.cons rfl (.cons rfl (.cons rfl (.cons rfl (.cons rfl Subs.nil))))))))) hR H
                        · replace H := M.ite_f hb H
                          have hE := hE.reb 76 (x11_32 != 0) false hb rfl
                          refine t_off rfl hE rfl rfl rfl (fun a ea => ?_)
                          have hE := Env.put_some hE rfl ea; clear ea
                          refine t_off rfl hE rfl rfl rfl (fun a ea => ?_)
                          have hE := Env.put_some hE rfl ea; clear ea
                          refine t_off rfl hE rfl rfl rfl (fun a ea => ?_)
                          have hE := Env.put_some hE rfl ea; clear ea
                          refine t_on rfl hE rfl rfl rfl ?_
                          refine t_val rfl rfl hE rfl (r_pick_f hE rfl rfl) (fun a hE => ?_)
                          refine t_nil ?_
                          exact hKr _ _ _ (hE.cut (.cons rfl (.cons rfl (.cons rfl (.cons rfl (.cons rfl (.cons rfl (.cons rfl (.cons rfl Subs.nil))))))))) hR H
                      · intro x80_46 a w hE hR H
                        refine t_val rfl rfl hE rfl (r_pick_f hE rfl rfl) (fun a hE => ?_)
                        refine t_nil ?_
                        exact hKr _ _ _ (hE.cut (.cons rfl (.cons rfl (.cons rfl (.cons rfl (.cons rfl (.cons rfl (.cons rfl Subs.nil)))))))) hR H
                  · intro x81_45 a w hE hR H
                    refine t_nil ?_
                    refine hK_41 _ _ ?_
                    refine w_cond x81_45 hE rfl (fun hb => ?_) (fun hb => ?_)
                    · replace H := M.ite_t hb H
                      refine w_seq (fun K hK_48 => ?_)
                      refine t_region ?_
                      refine t_val (v := .bool false) rfl rfl hE rfl (r_assign hE rfl) (fun a hE => ?_)
                      refine t_nil ?_
                      refine hK_48 _ _ ?_
                      refine w_ret ?_
                      exact hret _ _ _ false _ hE hR (res_run hE rfl (RV.tmp rfl RV.nil)) rfl H
                    · replace H := M.ite_f hb H
                      refine w_skip ?_
                      refine hK_40 _ _ ?_
                      refine w_seq (fun K hK_49 => ?_)
                      refine t_region ?_
                      refine t_val (v := .bool x44_30) rfl rfl hE rfl (r_move hE rfl) (fun a hE => ?_)
                      refine t_val (v := .bool (!x44_30)) rfl rfl hE rfl (r_un hE rfl u_not) (fun a hE => ?_)
                      refine t_val (v := .bool (!x44_30)) rfl rfl hE rfl (r_move hE rfl) (fun a hE => ?_)
                      refine t_grp (n := (⟨124, []⟩ : Frm)) (w0 := w0) 3 (fun x87_50 : Bool => [(0, .int .u8 x0), (5, .pointer x15_3.1), (35, (x1 : Sl).v), (36, .int .i64 (x1.len : Int)), (37, .int .i64 x37_14), (87, .bool x87_50)]) (M.unbind H) (fun Kr hKr H => ?_) ?_
                      · rcases bool_em (!x44_30) with hb | hb
                        · replace H := M.ite_t hb H
                          have hE := hE.reb 84 (!x44_30) true hb rfl
                          refine t_on rfl hE rfl rfl rfl ?_
                          refine t_val (v := .pointer x15_3.1) rfl rfl hE rfl (r_move hE rfl) (fun a hE => ?_)
                          refine t_on rfl hE rfl rfl rfl ?_
                          refine t_call hE hR cl_disk_Disk_Down rfl (S_disk_Disk_Down x15_3.1) (M.unbind H) (fun x86_51 a w ea hR H => ?_)
                          have hE := Env.put_some hE rfl ea; clear ea
                          refine t_val rfl rfl hE rfl (r_pick_t hE rfl rfl) (fun a hE => ?_)
                          refine t_nil ?_
                          exact hKr _ _ _ (hE.cut (.cons rfl (.cons rfl (.cons rfl (.cons rfl (.cons rfl (.cons rfl Subs.nil))))))) hR H
                        · replace H := M.ite_f hb H
                          have hE := hE.reb 84 (!x44_30) false hb rfl
                          refine t_off rfl hE rfl rfl rfl (fun a ea => ?_)
                          have hE := Env.put_some hE rfl ea; clear ea
                          refine t_off rfl hE rfl rfl rfl (fun a ea => ?_)
                          have hE := Env.put_some hE rfl ea; clear ea
                          refine t_val rfl rfl hE rfl (r_pick_f hE rfl rfl) (fun a hE => ?_)
                          refine t_nil ?_
                          exact hKr _ _ _ (hE.cut (.cons rfl (.cons rfl (.cons rfl (.cons rfl (.cons rfl (.cons rfl Subs.nil))))))) hR H
                      · intro x87_50 a w hE hR H
                        refine t_val (v := .bool x87_50) rfl rfl hE rfl (r_move hE rfl) (fun a hE => ?_)
                        refine t_grp (n := (⟨124, []⟩ : Frm)) (w0 := w0) 11 (fun x99_52 : Bool => [(0, .int .u8 x0), (5, .pointer x15_3.1), (35, (x1 : Sl).v), (36, .int .i64 (x1.len : Int)), (37, .int .i64 x37_14), (99, .bool x99_52)]) (M.unbind H) (fun Kr hKr H => ?_) ?_
                        · rcases bool_em x87_50 with hb | hb
                          · replace H := M.ite_t hb H
                            have hE := hE.reb 88 x87_50 true hb rfl
                            refine t_on rfl hE rfl rfl rfl ?_
                            refine t_val (v := .int .u8 x0) rfl rfl hE rfl (r_move hE rfl) (fun a hE => ?_)
                            refine t_on rfl hE rfl rfl rfl ?_
                            refine t_val (v := .bool (x0 == 0)) rfl rfl hE rfl (r_bin hE rfl rfl g_int b_eql) (fun a hE => ?_)
                            refine t_on rfl hE rfl rfl rfl ?_
                            refine t_val (v := .bool (x0 == 0)) rfl rfl hE rfl (r_move hE rfl) (fun a hE => ?_)
                            refine t_grp (n := (⟨124, []⟩ : Frm)) (w0 := w0) 7 (fun x98_53 : Bool => [(0, .int .u8 x0), (5, .pointer x15_3.1), (35, (x1 : Sl).v), (36, .int .i64 (x1.len : Int)), (37, .int .i64 x37_14), (88, .bool true), (98, .bool x98_53)]) (M.unbind H) (fun Kr hKr H => ?_) ?_
                            · rcases bool_em (x0 == 0) with hb | hb
                              · replace H := M.ite_t hb H
                                have hE := hE.reb 91 (x0 == 0) true hb rfl
                                refine t_off rfl hE rfl rfl rfl (fun a ea => ?_)
                                have hE := Env.put_some hE rfl ea; clear ea
                                refine t_off rfl hE rfl rfl rfl (fun a ea => ?_)
                                have hE := Env.put_some hE rfl ea; clear ea
                                refine t_off rfl hE rfl rfl rfl (fun a ea => ?_)
                                have hE := Env.put_some hE rfl ea; clear ea
                                refine t_off rfl hE rfl rfl rfl (fun a ea => ?_)
                                have hE := Env.put_some hE rfl ea; clear ea
                                refine t_off rfl hE rfl rfl rfl (fun a ea => ?_)
                                have hE := Env.put_some hE rfl ea; clear ea
                                refine t_off rfl hE rfl rfl rfl (fun a ea => ?_)
                                have hE := Env.put_some hE rfl ea; clear ea
                                refine t_on rfl hE rfl rfl rfl ?_
                                refine t_val rfl rfl hE rfl (r_pick_t hE rfl rfl) (fun a hE => ?_)
                                refine t_nil ?_
                                exact hKr _ _ _ (hE.cut (.cons rfl (.cons rfl (.cons rfl (.cons rfl (.cons rfl (.cons rfl (.cons rfl Subs.nil)))))))) hR H
                              · replace H := M.ite_f hb H
                                have hE := hE.reb 91 (x0 == 0) false hb rfl
                                refine t_on rfl hE rfl rfl rfl ?_
                                refine t_val (v := .pointer x15_3.1) rfl rfl hE rfl (r_move hE rfl) (fun a hE => ?_)
                                refine t_on rfl hE rfl rfl rfl ?_
                                refine t_call hE hR cl_disk_Disk_Calls rfl (S_disk_Disk_Calls x15_3.1) (M.unbind H) (fun x93_54 a w ea hR H => ?_)
                                have hE := Env.put_some hE rfl ea; clear ea
                                refine t_on rfl hE rfl rfl rfl ?_
                                refine t_val (v := .int .u8 x0) rfl rfl hE rfl (r_move hE rfl) (fun a hE => ?_)
                                refine t_on rfl hE rfl rfl rfl ?_
                                refine t_val (v := .int .i64 (IntKind.wrap .i64 x0)) rfl rfl hE rfl (r_convI hE rfl un5 un2) (fun a hE => ?_)
                                refine t_on rfl hE rfl rfl rfl ?_
                                refine t_val (v := .int .i64 (IntKind.wrap .i64 ((IntKind.wrap .i64 x0) - 1))) rfl rfl hE rfl (r_bin hE rfl rfl g_int b_sub) (fun a hE => ?_)
                                refine t_on rfl hE rfl rfl rfl ?_
                                refine t_val (v := .bool (x93_54 != (IntKind.wrap .i64 ((IntKind.wrap .i64 x0) - 1)))) rfl rfl hE rfl (r_bin hE rfl rfl g_int b_neq) (fun a hE => ?_)
                                refine t_on rfl hE rfl rfl rfl ?_
                                refine t_val rfl rfl hE rfl (r_pick_f hE rfl rfl) (fun a hE => ?_)
                                refine t_nil ?_
                                exact hKr _ _ _ (hE.cut (.cons rfl (.cons rfl (.cons rfl (.cons rfl (.cons rfl (.cons rfl (.cons rfl Subs.nil)))))))) hR H
                            · intro x98_53 a w hE hR H
                              refine t_val rfl rfl hE rfl (r_pick_t hE rfl rfl) (fun a hE => ?_)
                              refine t_nil ?_
                              exact hKr _ _ _ (hE.cut (.cons rfl (.cons rfl (.cons rfl (.cons rfl (.cons rfl (.cons rfl Subs.nil))))))) hR H
                          · replace H := M.ite_f hb H
                            have hE := hE.reb 88 x87_50 false hb rfl
                            refine t_off rfl hE rfl rfl rfl (fun a ea => ?_)
                            have hE := Env.put_some hE rfl ea; clear ea
                            refine t_off rfl hE rfl rfl rfl (fun a ea => ?_)
                            have hE := Env.put_some hE rfl ea; clear ea
                            refine t_off rfl hE rfl rfl rfl (fun a ea => ?_)
                            have hE := Env.put_some hE rfl ea; clear ea
                            refine t_off' rfl hE rfl rfl (fun b hb => by cases hb) (fun a ea => ?_)
                            have hE := Env.put_some hE rfl ea; clear ea
                            refine t_off' rfl hE rfl rfl (fun b hb => by cases hb) (fun a ea => ?_)
                            have hE := Env.put_some hE rfl ea; clear ea
                            refine t_off' rfl hE rfl rfl (fun b hb => by cases hb) (fun a ea => ?_)
                            have hE := Env.put_some hE rfl ea; clear ea
                            refine t_off' rfl hE rfl rfl (fun b hb => by cases hb) (fun a ea => ?_)
                            have hE := Env.put_some hE rfl ea; clear ea
                            refine t_off' rfl hE rfl rfl (fun b hb => by cases hb) (fun a ea => ?_)
                            have hE := Env.put_some hE rfl ea; clear ea
                            refine t_off' rfl hE rfl rfl (fun b hb => by cases hb) (fun a ea => ?_)
                            have hE := Env.put_some hE rfl ea; clear ea
                            refine t_off rfl hE rfl rfl rfl (fun a ea => ?_)
                            have hE := Env.put_some hE rfl ea; clear ea
                            refine t_val rfl rfl hE rfl (r_pick_f hE rfl rfl) (fun a hE => ?_)
                            refine t_nil ?_
                            exact hKr _ _ _ (hE.cut (.cons rfl (.cons rfl (.cons rfl (.cons rfl (.cons rfl (.cons rfl Subs.nil))))))) hR H
                        · intro x99_52 a w hE hR H
                          refine t_nil ?_
                          refine hK_49 _ _ ?_
                          refine w_cond x99_52 hE rfl (fun hb => ?_) (fun hb => ?_)
                          · replace H := M.ite_t hb H
                            refine w_seq (fun K hK_55 => ?_)
                            refine t_region ?_
                            refine t_val (v := .bool false) rfl rfl hE rfl (r_assign hE rfl) (fun a hE => ?_)
                            refine t_nil ?_
                            refine hK_55 _ _ ?_
                            refine w_ret ?_
                            exact hret _ _ _ false _ hE hR (res_run hE rfl (RV.tmp rfl RV.nil)) rfl H
                          · replace H := M.ite_f hb H
                            refine w_skip ?_
                            refine hK_22 _ _ ?_
                            refine t_region ?_
                            refine t_val (v := .int .i64 (IntKind.wrap .i64 (x37_14 + 1))) rfl rfl hE rfl (r_bin hE rfl rfl g_int b_add) (fun a hE => ?_)
                            refine t_val (v := .int .i64 (IntKind.wrap .i64 (x37_14 + 1))) rfl rfl hE rfl (r_move hE rfl) (fun a hE => ?_)
                            refine t_nil ?_
                            exact hY_19 (IntKind.wrap .i64 (x37_14 + 1)) _ _ (hE.cut (.cons rfl (.cons rfl (.cons rfl (.cons rfl (.cons rfl Subs.nil)))))) hR H
            · skip
              refine w_seq (fun K hK_56 => ?_)
              refine t_region ?_
              refine t_val (v := .pointer (some ((x8_26).add 0))) rfl rfl hE rfl (r_fieldAddr hE rfl fd51_0) (fun a hE => ?_)
              obtain ⟨x46_57, qx46_57, H⟩ := H
              refine t_val (v := .int .i64 x46_57) rfl rfl hE rfl (r_load hE rfl sc3 qx46_57) (fun a hE => ?_)
              refine t_val (v := .bool (x46_57 == 2)) rfl rfl hE rfl (r_bin hE rfl rfl g_int b_eql) (fun a hE => ?_)
              refine t_nil ?_
              refine hK_56 _ _ ?_
              refine w_cond (x46_57 == 2) hE rfl (fun hb => ?_) (fun hb => ?_)
              · replace H := M.ite_t hb H
                refine t_region ?_
                refine t_val (v := .pointer x15_3.1) rfl rfl hE rfl (r_move hE rfl) (fun a hE => ?_)
                refine t_call hE hR cl_disk_Disk_Flush rfl (S_disk_Disk_Flush x15_3.1) (M.unbind H) (fun x49_58 a w ea hR H => ?_)
                have hE := Env.put_some hE rfl ea; clear ea
                refine t_val (v := .int .i64 x49_58) rfl rfl hE rfl (r_assign hE rfl) (fun a hE => ?_)
                refine t_nil ?_
                exact ⟨x49_58, hE.cut (.cons rfl (.cons rfl (.cons rfl (.cons rfl (.cons rfl (.cons rfl (.cons rfl (.cons rfl Subs.nil)))))))), hR, H⟩
              · replace H := M.ite_f hb H
                obtain ⟨x52_59, qx52_59, H⟩ := H
                obtain ⟨x55_60, qx55_60, H⟩ := H
                have hT := tab_of tb6_11 rfl rfl
                refine d_start (fun w : World => (fun h : Heap => (hcell h ((x8_26).add 1) = some (.int .i64 x52_59)) ∧ (hcell h ((x8_26).add 2) = some (.int .u8 x55_60))) w.heap) [7, 8] #[false, false, false, false, false, false, false, false, false] mo hR rfl rfl (fun w' e => by rw [e]; exact ⟨qx52_59, qx55_60⟩) (fun w hh hR hs => ?_)
                replace H := M.at hh H; clear hh
                refine d_pureg (i := 0) (v := .pointer x15_3.1) #[true, false, false, false, false, false, false, false, false] rfl rfl hT (by kernel_rfl) hE rfl (wanted_none rfl) (fun w => r_move hE rfl) (fun a hE => ?_)
                refine d_pureg (i := 1) (v := .pointer (some ((x8_26).add 1))) #[true, true, false, false, false, false, false, false, false] rfl rfl hT (by kernel_rfl) hE rfl (wanted_none rfl) (fun w => r_fieldAddr hE rfl fd51_1) (fun a hE => ?_)
                refine d_pureg (i := 4) (v := .pointer (some ((x8_26).add 2))) #[true, true, false, false, true, false, false, false, false] rfl rfl hT (by kernel_rfl) hE rfl (wanted_none rfl) (fun w => r_fieldAddr hE rfl fd51_2) (fun a hE => ?_)
                refine d_read (i := 2) (v := .int .i64 x52_59) #[true, true, true, false, true, false, false, false, false] rfl rfl hT (by kernel_rfl) hE rfl (wanted_none rfl) hs (fun w s => r_load hE rfl sc3 s.1) (fun a hE => ?_)
                refine d_pureg (i := 3) (v := .int .i64 (iAnd .i64 x52_59 7)) #[true, true, true, true, true, false, false, false, false] rfl rfl hT (by kernel_rfl) hE rfl (wanted_none rfl) (fun w => r_bin hE rfl rfl g_int b_and) (fun a hE => ?_)
                refine d_read (i := 5) (v := .int .u8 x55_60) #[true, true, true, true, true, true, false, false, false] rfl rfl hT (by kernel_rfl) hE rfl (wanted_none rfl) hs (fun w s => r_load hE rfl sc5 s.2) (fun a hE => ?_)
                refine d_call (i := 6) #[true, true, true, true, true, true, true, false, false] rfl rfl rfl hT (by kernel_rfl) rfl hE hR (wanted_none rfl) cl_ramblelaw04_filled rfl (S_ramblelaw04_filled x55_60) (M.unbind H) (fun r h H w' e => by obtain ⟨_, sA, H⟩ := H; rw [e]; exact sA) (fun x56_61 a w ea hR H hs => ?_)
                obtain ⟨_, sA, H⟩ := H; clear sA
                have hE := Env.put_some hE rfl ea; clear ea
                refine d_calll (i := 7) #[true, true, true, true, true, true, true, true, false] rfl rfl rfl hT (by kernel_rfl) rfl hE hR (wanted_none rfl) cl_disk_Disk_Write rfl (S_disk_Disk_Write x15_3.1 (iAnd .i64 x52_59 7) x56_61) (M.unbind H) (fun x57_62 a w ea hR H => ?_)
                have hE := Env.put_some hE rfl ea; clear ea
                refine d_pureg (i := 8) (v := .int .i64 x57_62) #[true, true, true, true, true, true, true, true, true] rfl rfl hT (by kernel_rfl) hE rfl (wanted_none rfl) (fun w => r_assign hE rfl) (fun a hE => ?_)
                refine d_done hT (by kernel_rfl) ?_
                exact ⟨x57_62, hE.cut (.cons rfl (.cons rfl (.cons rfl (.cons rfl (.cons rfl (.cons rfl (.cons rfl (.cons rfl Subs.nil)))))))), hR, H⟩
          · replace H := M.ite_f hb H
            refine w_exit ?_
            refine Xu.same ?_
            refine hK_12 _ _ ?_
            refine w_seq (fun K hK_63 => ?_)
            refine w_seq (fun K hK_64 => ?_)
            refine t_region ?_
            refine t_val (v := .pointer x15_3.1) rfl rfl hE rfl (r_move hE rfl) (fun a hE => ?_)
            refine t_call hE hR cl_disk_Disk_Down rfl (S_disk_Disk_Down x15_3.1) (M.unbind H) (fun x102_65 a w ea hR H => ?_)
            have hE := Env.put_some hE rfl ea; clear ea
            refine t_nil ?_
            refine hK_64 _ _ ?_
            refine w_cond x102_65 hE rfl (fun hb => ?_) (fun hb => ?_)
            · replace H := M.ite_t hb H
              refine w_seq (fun K hK_66 => ?_)
              refine t_region ?_
              refine t_val (v := .pointer x15_3.1) rfl rfl hE rfl (r_move hE rfl) (fun a hE => ?_)
              refine t_call hE hR cl_disk_Disk_Read rfl (S_disk_Disk_Read x15_3.1 0) (M.unbind H) (fun x105_67 a w ea hR H => ?_)
              have hE := Env.put_some hE rfl ea; clear ea
              refine t_val (v := .tuple #[.agg x105_67.1, .int .i64 x105_67.2]) rfl rfl hE rfl (r_move hE rfl) (fun a hE => ?_)
              refine t_val (v := .agg x105_67.1) rfl rfl hE rfl (r_extract hE rfl rfl) (fun a hE => ?_)
              refine t_val (v := .int .i64 x105_67.2) rfl rfl hE rfl (r_extract hE rfl rfl) (fun a hE => ?_)
              obtain ⟨x12_68, qx12_68, H⟩ := H
              refine t_valh (v := .pointer (some x12_68)) rfl rfl hE rfl hR (r_alloc zr47 qx12_68) (fun a w hE hR hh => ?_)
              replace H := M.at hh H; clear hh
              obtain ⟨qz, H⟩ := H
              obtain ⟨u_69, qu_69, H⟩ := H
              refine t_sth rfl rfl hE hR (r_storeG hE rfl rfl sz47 qz qu_69) (fun a w hE hR hh => ?_)
              replace H := M.at hh H; clear hh
              refine t_val (v := .int .i64 x105_67.2) rfl rfl hE rfl (r_assign hE rfl) (fun a hE => ?_)
              refine t_nil ?_
              refine hK_66 _ _ ?_
              refine w_seq (fun K hK_70 => ?_)
              refine t_region ?_
              refine t_val (v := .int .i64 x105_67.2) rfl rfl hE rfl (r_move hE rfl) (fun a hE => ?_)
              refine t_val (v := .bool (x105_67.2 == 9)) rfl rfl hE rfl (r_bin hE rfl rfl g_int b_eql) (fun a hE => ?_)
              refine t_val (v := .bool (x105_67.2 == 9)) rfl rfl hE rfl (r_move hE rfl) (fun a hE => ?_)
              refine t_grp (n := (⟨124, []⟩ : Frm)) (w0 := w0) 4 (fun x114_71 : Bool => [(114, .bool x114_71)]) (M.unbind H) (fun Kr hKr H => ?_) ?_
              · rcases bool_em (x105_67.2 == 9) with hb | hb
                · replace H := M.ite_t hb H
                  have hE := hE.reb 110 (x105_67.2 == 9) true hb rfl
                  refine t_on rfl hE rfl rfl rfl ?_
                  refine t_val (v := .pointer x15_3.1) rfl rfl hE rfl (r_move hE rfl) (fun a hE => ?_)
                  refine t_on rfl hE rfl rfl rfl ?_
                  refine t_call hE hR cl_disk_Disk_Flush rfl (S_disk_Disk_Flush x15_3.1) (M.unbind H) (fun x112_72 a w ea hR H => ?_)
                  have hE := Env.put_some hE rfl ea; clear ea
                  refine t_on rfl hE rfl rfl rfl ?_
                  refine t_val (v := .bool (x112_72 == 9)) rfl rfl hE rfl (r_bin hE rfl rfl g_int b_eql) (fun a hE => ?_)
                  refine t_val rfl rfl hE rfl (r_pick_t hE rfl rfl) (fun a hE => ?_)
                  refine t_nil ?_
                  exact hKr _ _ _ (hE.cut (.cons rfl Subs.nil)) hR H
                · replace H := M.ite_f hb H
                  have hE := hE.reb 110 (x105_67.2 == 9) false hb rfl
                  refine t_off rfl hE rfl rfl rfl (fun a ea => ?_)
                  have hE := Env.put_some hE rfl ea; clear ea
                  refine t_off rfl hE rfl rfl rfl (fun a ea => ?_)
                  have hE := Env.put_some hE rfl ea; clear ea
                  refine t_off rfl hE rfl rfl rfl (fun a ea => ?_)
                  have hE := Env.put_some hE rfl ea; clear ea
                  refine t_val rfl rfl hE rfl (r_pick_f hE rfl rfl) (fun a hE => ?_)
                  refine t_nil ?_
                  exact hKr _ _ _ (hE.cut (.cons rfl Subs.nil)) hR H
              · intro x114_71 a w hE hR H
                refine t_val (v := .bool x114_71) rfl rfl hE rfl (r_assign hE rfl) (fun a hE => ?_)
                refine t_nil ?_
                refine hK_70 _ _ ?_
                refine w_ret ?_
                exact hret _ _ _ x114_71 _ hE hR (res_run hE rfl (RV.tmp rfl RV.nil)) rfl H
            · replace H := M.ite_f hb H
              refine w_skip ?_
              refine hK_63 _ _ ?_
              refine w_seq (fun K hK_73 => ?_)
              refine t_region ?_
              refine t_val (v := .int .u8 x0) rfl rfl hE rfl (r_move hE rfl) (fun a hE => ?_)
              refine t_val (v := .bool (x0 == 0)) rfl rfl hE rfl (r_bin hE rfl rfl g_int b_eql) (fun a hE => ?_)
              refine t_val (v := .bool (x0 == 0)) rfl rfl hE rfl (r_move hE rfl) (fun a hE => ?_)
              refine t_grp (n := (⟨124, []⟩ : Frm)) (w0 := w0) 6 (fun x123_74 : Bool => [(123, .bool x123_74)]) (M.unbind H) (fun Kr hKr H => ?_) ?_
              · rcases bool_em (x0 == 0) with hb | hb
                · replace H := M.ite_t hb H
                  have hE := hE.reb 117 (x0 == 0) true hb rfl
                  refine t_off rfl hE rfl rfl rfl (fun a ea => ?_)
                  have hE := Env.put_some hE rfl ea; clear ea
                  refine t_off rfl hE rfl rfl rfl (fun a ea => ?_)
                  have hE := Env.put_some hE rfl ea; clear ea
                  refine t_off rfl hE rfl rfl rfl (fun a ea => ?_)
                  have hE := Env.put_some hE rfl ea; clear ea
                  refine t_off rfl hE rfl rfl rfl (fun a ea => ?_)
                  have hE := Env.put_some hE rfl ea; clear ea
                  refine t_off rfl hE rfl rfl rfl (fun a ea => ?_)
                  have hE := Env.put_some hE rfl ea; clear ea
                  refine t_val rfl rfl hE rfl (r_pick_t hE rfl rfl) (fun a hE => ?_)
                  refine t_nil ?_
                  exact hKr _ _ _ (hE.cut (.cons rfl Subs.nil)) hR H
                · replace H := M.ite_f hb H
                  have hE := hE.reb 117 (x0 == 0) false hb rfl
                  refine t_on rfl hE rfl rfl rfl ?_
                  refine t_val (v := .pointer x15_3.1) rfl rfl hE rfl (r_move hE rfl) (fun a hE => ?_)
                  refine t_on rfl hE rfl rfl rfl ?_
                  refine t_call hE hR cl_disk_Disk_Calls rfl (S_disk_Disk_Calls x15_3.1) (M.unbind H) (fun x119_75 a w ea hR H => ?_)
                  have hE := Env.put_some hE rfl ea; clear ea
                  refine t_on rfl hE rfl rfl rfl ?_
                  refine t_val (v := .int .u8 x0) rfl rfl hE rfl (r_move hE rfl) (fun a hE => ?_)
                  refine t_on rfl hE rfl rfl rfl ?_
                  refine t_val (v := .int .i64 (IntKind.wrap .i64 x0)) rfl rfl hE rfl (r_convI hE rfl un5 un2) (fun a hE => ?_)
                  refine t_on rfl hE rfl rfl rfl ?_
                  refine t_val (v := .bool (decide (x119_75 < (IntKind.wrap .i64 x0)))) rfl rfl hE rfl (r_bin hE rfl rfl g_int b_lss) (fun a hE => ?_)
                  refine t_val rfl rfl hE rfl (r_pick_f hE rfl rfl) (fun a hE => ?_)
                  refine t_nil ?_
                  exact hKr _ _ _ (hE.cut (.cons rfl Subs.nil)) hR H
              · intro x123_74 a w hE hR H
                refine t_val (v := .bool x123_74) rfl rfl hE rfl (r_assign hE rfl) (fun a hE => ?_)
                refine t_nil ?_
                refine hK_73 _ _ ?_
                refine w_ret ?_
                exact hret _ _ _ x123_74 _ hE hR (res_run hE rfl (RV.tmp rfl RV.nil)) rfl H

end Gx
