/- Printed by program: Go functions as Lean programs, each tied to its code. No condition. -/
import Derived.Test.YtlmfpnogpolhhaaP0
import Derived.Test.YtlmfpnogpolhhaaP1
import Derived.Test.YtlmfpnogpolhhaaProg
import Derived.KernelRfl
import Derived.Shelf.Sort.Plain
import Derived.Shelf.Slices.In.SortNone
set_option linter.unusedVariables false
set_option linter.unusedSimpArgs false
namespace Gx
open Go
abbrev fn_maps_Keys_map_int_api_Sector_int_api_Sector_1 : Nat := 73
abbrev ty_8_api_Sector : Nat := 48
abbrev ty_api_Frame : Nat := 86
abbrev ty_api_Sector : Nat := 47
abbrev ty_bool : Nat := 4
abbrev ty_disk_Disk : Nat := 66
abbrev ty_int : Nat := 3
abbrev ty_map_int_api_Sector : Nat := 64
abbrev ty_p_disk_Disk : Nat := 23
abbrev ty_ramblelaw04_Op : Nat := 51
abbrev ty_sl_int : Nat := 54
abbrev ty_sl_sl_uint8 : Nat := 32
abbrev ty_sl_uint8 : Nat := 30
abbrev ty_uint8 : Nat := 5
theorem mo : Go.Proofs.Try.prog.follows .mixedOrders = true := by kernel_rfl
theorem un106 : Go.Proofs.Try.prog.underlying 106 = some (.int .u64) := by kernel_rfl
theorem un2 : Go.Proofs.Try.prog.underlying 2 = some (.int .i64) := by kernel_rfl
theorem un23 : Go.Proofs.Try.prog.underlying 23 = some (.pointer 66) := by kernel_rfl
theorem un3 : Go.Proofs.Try.prog.underlying 3 = some (.int .i64) := by kernel_rfl
theorem un30 : Go.Proofs.Try.prog.underlying 30 = some (.slice 5) := by kernel_rfl
theorem un32 : Go.Proofs.Try.prog.underlying 32 = some (.slice 30) := by kernel_rfl
theorem un4 : Go.Proofs.Try.prog.underlying 4 = some (.bool) := by kernel_rfl
theorem un44 : Go.Proofs.Try.prog.underlying 44 = some (.slice 51) := by kernel_rfl
theorem un45 : Go.Proofs.Try.prog.underlying 45 = some (.slice 4) := by kernel_rfl
theorem un47 : Go.Proofs.Try.prog.underlying 47 = some (.array 128 5) := by kernel_rfl
theorem un48 : Go.Proofs.Try.prog.underlying 48 = some (.array 8 47) := by kernel_rfl
theorem un49 : Go.Proofs.Try.prog.underlying 49 = some (.int .u32) := by kernel_rfl
theorem un5 : Go.Proofs.Try.prog.underlying 5 = some (.int .u8) := by kernel_rfl
theorem un54 : Go.Proofs.Try.prog.underlying 54 = some (.slice 3) := by kernel_rfl
theorem un63 : Go.Proofs.Try.prog.underlying 63 = some (.slice 47) := by kernel_rfl
theorem un64 : Go.Proofs.Try.prog.underlying 64 = some (.map 3 47) := by kernel_rfl
theorem un67 : Go.Proofs.Try.prog.underlying 67 = some (.slice 23) := by kernel_rfl
theorem zr23 : ((Go.Proofs.Try.prog.info? 23).bind (·.zero)) = some (.pointer none) := by kernel_rfl
theorem zr3 : ((Go.Proofs.Try.prog.info? 3).bind (·.zero)) = some (.int .i64 0) := by kernel_rfl
theorem zr30 : ((Go.Proofs.Try.prog.info? 30).bind (·.zero)) = some (.slice none 0 0) := by kernel_rfl
theorem zr4 : ((Go.Proofs.Try.prog.info? 4).bind (·.zero)) = some (.bool false) := by kernel_rfl
theorem zr47 : ((Go.Proofs.Try.prog.info? 47).bind (·.zero)) = some (.agg (Array.replicate 128 (.int .u8 0) : Array Value)) := by kernel_rfl
theorem zr48 : ((Go.Proofs.Try.prog.info? 48).bind (·.zero)) = some (.agg (Array.replicate 1024 (.int .u8 0) : Array Value)) := by kernel_rfl
theorem zr5 : ((Go.Proofs.Try.prog.info? 5).bind (·.zero)) = some (.int .u8 0) := by kernel_rfl
theorem zr51 : ((Go.Proofs.Try.prog.info? 51).bind (·.zero)) = some (.agg (#[.int .i64 0, .int .i64 0, .int .u8 0, .slice none 0 0, .int .i64 0, .int .u32 0] : Array Value)) := by kernel_rfl
theorem zr66 : ((Go.Proofs.Try.prog.info? 66).bind (·.zero)) = some (.agg (#[.slice none 0 0, .slice none 0 0, .map none, .bool false, .int .i64 0, .int .i64 0] : Array Value)) := by kernel_rfl
theorem zr86 : ((Go.Proofs.Try.prog.info? 86).bind (·.zero)) = some (.agg (#[.int .i64 0, .int .i64 0, .slice none 0 0] : Array Value)) := by kernel_rfl
theorem ag47 : agB Go.Proofs.Try.prog 47 128 = true := by kernel_rfl
theorem ag48 : agB Go.Proofs.Try.prog 48 1024 = true := by kernel_rfl
theorem ag51 : agB Go.Proofs.Try.prog 51 6 = true := by kernel_rfl
theorem ag66 : agB Go.Proofs.Try.prog 66 6 = true := by kernel_rfl
theorem ag86 : agB Go.Proofs.Try.prog 86 3 = true := by kernel_rfl
theorem ap30 : apB Go.Proofs.Try.prog 30 5 1 1 (#[.int .u8 0] : Array Value) := ⟨un30, ap_info (by kernel_rfl)⟩
theorem ap32 : apB Go.Proofs.Try.prog 32 30 1 24 (#[.slice none 0 0] : Array Value) := ⟨un32, ap_info (by kernel_rfl)⟩
theorem ap45 : apB Go.Proofs.Try.prog 45 4 1 1 (#[.bool false] : Array Value) := ⟨un45, ap_info (by kernel_rfl)⟩
theorem ap54 : apB Go.Proofs.Try.prog 54 3 1 8 (#[.int .i64 0] : Array Value) := ⟨un54, ap_info (by kernel_rfl)⟩
theorem ap63 : apB Go.Proofs.Try.prog 63 47 128 128 (Array.replicate 128 (.int .u8 0) : Array Value) := ⟨un63, ap_info (by kernel_rfl)⟩
theorem bd47 : ∀ w, (Instr.build 47 #[]).run Go.Proofs.Try.prog w = .ok (.agg (Array.replicate 128 (.int .u8 0) : Array Value)) w := fun w => by kernel_rfl
theorem bd66 : ∀ w, (Instr.build 66 #[]).run Go.Proofs.Try.prog w = .ok (.agg (#[.slice none 0 0, .slice none 0 0, .map none, .bool false, .int .i64 0, .int .i64 0] : Array Value)) w := fun w => by kernel_rfl
theorem bd86 : ∀ w, (Instr.build 86 #[]).run Go.Proofs.Try.prog w = .ok (.agg (#[.int .i64 0, .int .i64 0, .slice none 0 0] : Array Value)) w := fun w => by kernel_rfl
theorem cl_disk_Disk_Burst : Callee? Go.Proofs.Try.prog 32 := callee_of Go.Proofs.Try.func32 (by kernel_rfl) rfl
theorem cl_disk_Disk_Calls : Callee? Go.Proofs.Try.prog 30 := callee_of Go.Proofs.Try.func30 (by kernel_rfl) rfl
theorem cl_disk_Disk_Clone : Callee? Go.Proofs.Try.prog 34 := callee_of Go.Proofs.Try.func34 (by kernel_rfl) rfl
theorem cl_disk_Disk_Crash : Callee? Go.Proofs.Try.prog 25 := callee_of Go.Proofs.Try.func25 (by kernel_rfl) rfl
theorem cl_disk_Disk_Dirty : Callee? Go.Proofs.Try.prog 24 := callee_of Go.Proofs.Try.func24 (by kernel_rfl) rfl
theorem cl_disk_Disk_Down : Callee? Go.Proofs.Try.prog 31 := callee_of Go.Proofs.Try.func31 (by kernel_rfl) rfl
theorem cl_disk_Disk_Flush : Callee? Go.Proofs.Try.prog 23 := callee_of Go.Proofs.Try.func23 (by kernel_rfl) rfl
theorem cl_disk_Disk_Read : Callee? Go.Proofs.Try.prog 27 := callee_of Go.Proofs.Try.func27 (by kernel_rfl) rfl
theorem cl_disk_Disk_Sectors : Callee? Go.Proofs.Try.prog 33 := callee_of Go.Proofs.Try.func33 (by kernel_rfl) rfl
theorem cl_disk_Disk_SetFuse : Callee? Go.Proofs.Try.prog 29 := callee_of Go.Proofs.Try.func29 (by kernel_rfl) rfl
theorem cl_disk_Disk_Start : Callee? Go.Proofs.Try.prog 26 := callee_of Go.Proofs.Try.func26 (by kernel_rfl) rfl
theorem cl_disk_Disk_Write : Callee? Go.Proofs.Try.prog 21 := callee_of Go.Proofs.Try.func21 (by kernel_rfl) rfl
theorem cl_disk_Disk_call : Callee? Go.Proofs.Try.prog 52 := callee_of Go.Proofs.Try.func52 (by kernel_rfl) rfl
theorem cl_disk_Disk_can : Callee? Go.Proofs.Try.prog 50 := callee_of Go.Proofs.Try.func50 (by kernel_rfl) rfl
theorem cl_disk_Disk_decide : Callee? Go.Proofs.Try.prog 57 := callee_of Go.Proofs.Try.func57 (by kernel_rfl) rfl
theorem cl_disk_Disk_none : Callee? Go.Proofs.Try.prog 54 := callee_of Go.Proofs.Try.func54 (by kernel_rfl) rfl
theorem cl_disk_Disk_stay : Callee? Go.Proofs.Try.prog 53 := callee_of Go.Proofs.Try.func53 (by kernel_rfl) rfl
theorem cl_disk_Disk_there : Callee? Go.Proofs.Try.prog 51 := callee_of Go.Proofs.Try.func51 (by kernel_rfl) rfl
theorem cl_disk_New : Callee? Go.Proofs.Try.prog 9 := callee_of Go.Proofs.Try.func9 (by kernel_rfl) rfl
theorem cl_maps_Clone_map_int_api_Sector_int_api_Sector : Callee? Go.Proofs.Try.prog 61 := callee_of Go.Proofs.Try.func61 (by kernel_rfl) rfl
theorem cl_maps_Keys_map_int_api_Sector_int_api_Sector : Callee? Go.Proofs.Try.prog 56 := callee_of Go.Proofs.Try.func56 (by kernel_rfl) rfl
theorem cl_maps_Keys_map_int_api_Sector_int_api_Sector_1 : Callee? Go.Proofs.Try.prog 73 := callee_of Go.Proofs.Try.func73 (by kernel_rfl) rfl
theorem cl_ramblelaw04_begun : Callee? Go.Proofs.Try.prog 20 := callee_of Go.Proofs.Try.func20 (by kernel_rfl) rfl
theorem cl_ramblelaw04_filled : Callee? Go.Proofs.Try.prog 22 := callee_of Go.Proofs.Try.func22 (by kernel_rfl) rfl
theorem cl_sector_Seal : Callee? Go.Proofs.Try.prog 66 := callee_of Go.Proofs.Try.func66 (by kernel_rfl) rfl
theorem cl_sector_Sum : Callee? Go.Proofs.Try.prog 78 := callee_of Go.Proofs.Try.func78 (by kernel_rfl) rfl
theorem cl_sector_big : Callee? Go.Proofs.Try.prog 77 := callee_of Go.Proofs.Try.func77 (by kernel_rfl) rfl
theorem cl_slices_AppendSeq_slint_int : Callee? Go.Proofs.Try.prog 79 := callee_of Go.Proofs.Try.func79 (by kernel_rfl) rfl
theorem cl_slices_AppendSeq_slslbyte_slbyte : Callee? Go.Proofs.Try.prog 75 := callee_of Go.Proofs.Try.func75 (by kernel_rfl) rfl
theorem cl_slices_Clone_slapi_Sector_api_Sector : Callee? Go.Proofs.Try.prog 59 := callee_of Go.Proofs.Try.func59 (by kernel_rfl) rfl
theorem cl_slices_Clone_slbool_bool : Callee? Go.Proofs.Try.prog 60 := callee_of Go.Proofs.Try.func60 (by kernel_rfl) rfl
theorem cl_slices_Clone_slbyte_byte : Callee? Go.Proofs.Try.prog 38 := callee_of Go.Proofs.Try.func38 (by kernel_rfl) rfl
theorem cl_slices_Collect_int : Callee? Go.Proofs.Try.prog 71 := callee_of Go.Proofs.Try.func71 (by kernel_rfl) rfl
theorem cl_slices_Contains_slint_int : Callee? Go.Proofs.Try.prog 28 := callee_of Go.Proofs.Try.func28 (by kernel_rfl) rfl
theorem cl_slices_Index_slint_int : Callee? Go.Proofs.Try.prog 58 := callee_of Go.Proofs.Try.func58 (by kernel_rfl) rfl
theorem cl_slices_Sort_slint_int : Callee? Go.Proofs.Try.prog 72 := callee_of Go.Proofs.Try.func72 (by kernel_rfl) rfl
theorem cl_slices_Sorted_int : Callee? Go.Proofs.Try.prog 55 := callee_of Go.Proofs.Try.func55 (by kernel_rfl) rfl
theorem eg47 : Go.Proofs.Try.prog.eqGuardType Go.Proofs.Try.prog.depth 47 = false := by kernel_rfl
theorem fd51_0 : fdOff Go.Proofs.Try.prog 51 0 = some 0 := by kernel_rfl
theorem fd51_1 : fdOff Go.Proofs.Try.prog 51 1 = some 1 := by kernel_rfl
theorem fd51_2 : fdOff Go.Proofs.Try.prog 51 2 = some 2 := by kernel_rfl
theorem fd51_3 : fdOff Go.Proofs.Try.prog 51 3 = some 3 := by kernel_rfl
theorem fd51_4 : fdOff Go.Proofs.Try.prog 51 4 = some 4 := by kernel_rfl
theorem fd51_5 : fdOff Go.Proofs.Try.prog 51 5 = some 5 := by kernel_rfl
theorem fd66_0 : fdOff Go.Proofs.Try.prog 66 0 = some 0 := by kernel_rfl
theorem fd66_1 : fdOff Go.Proofs.Try.prog 66 1 = some 1 := by kernel_rfl
theorem fd66_2 : fdOff Go.Proofs.Try.prog 66 2 = some 2 := by kernel_rfl
theorem fd66_3 : fdOff Go.Proofs.Try.prog 66 3 = some 3 := by kernel_rfl
theorem fd66_4 : fdOff Go.Proofs.Try.prog 66 4 = some 4 := by kernel_rfl
theorem fd66_5 : fdOff Go.Proofs.Try.prog 66 5 = some 5 := by kernel_rfl
theorem fd86_0 : fdOff Go.Proofs.Try.prog 86 0 = some 0 := by kernel_rfl
theorem fd86_1 : fdOff Go.Proofs.Try.prog 86 1 = some 1 := by kernel_rfl
theorem fd86_2 : fdOff Go.Proofs.Try.prog 86 2 = some 2 := by kernel_rfl
theorem pl66 : placesOf Go.Proofs.Try.prog 66 = some [(0, 1), (1, 1), (2, 1), (3, 1), (4, 1), (5, 1)] := by kernel_rfl
theorem pl86 : placesOf Go.Proofs.Try.prog 86 = some [(0, 1), (1, 1), (2, 1)] := by kernel_rfl
theorem sc2 : scB Go.Proofs.Try.prog 2 = true := by kernel_rfl
theorem sc23 : scB Go.Proofs.Try.prog 23 = true := by kernel_rfl
theorem sc3 : scB Go.Proofs.Try.prog 3 = true := by kernel_rfl
theorem sc30 : scB Go.Proofs.Try.prog 30 = true := by kernel_rfl
theorem sc32 : scB Go.Proofs.Try.prog 32 = true := by kernel_rfl
theorem sc4 : scB Go.Proofs.Try.prog 4 = true := by kernel_rfl
theorem sc45 : scB Go.Proofs.Try.prog 45 = true := by kernel_rfl
theorem sc49 : scB Go.Proofs.Try.prog 49 = true := by kernel_rfl
theorem sc5 : scB Go.Proofs.Try.prog 5 = true := by kernel_rfl
theorem sc54 : scB Go.Proofs.Try.prog 54 = true := by kernel_rfl
theorem sc63 : scB Go.Proofs.Try.prog 63 = true := by kernel_rfl
theorem sc64 : scB Go.Proofs.Try.prog 64 = true := by kernel_rfl
theorem sz2 : szB Go.Proofs.Try.prog 2 1 = true := by kernel_rfl
theorem sz23 : szB Go.Proofs.Try.prog 23 1 = true := by kernel_rfl
theorem sz3 : szB Go.Proofs.Try.prog 3 1 = true := by kernel_rfl
theorem sz30 : szB Go.Proofs.Try.prog 30 1 = true := by kernel_rfl
theorem sz32 : szB Go.Proofs.Try.prog 32 1 = true := by kernel_rfl
theorem sz4 : szB Go.Proofs.Try.prog 4 1 = true := by kernel_rfl
theorem sz45 : szB Go.Proofs.Try.prog 45 1 = true := by kernel_rfl
theorem sz47 : szB Go.Proofs.Try.prog 47 128 = true := by kernel_rfl
theorem sz48 : szB Go.Proofs.Try.prog 48 1024 = true := by kernel_rfl
theorem sz5 : szB Go.Proofs.Try.prog 5 1 = true := by kernel_rfl
theorem sz51 : szB Go.Proofs.Try.prog 51 6 = true := by kernel_rfl
theorem sz54 : szB Go.Proofs.Try.prog 54 1 = true := by kernel_rfl
theorem sz63 : szB Go.Proofs.Try.prog 63 1 = true := by kernel_rfl
theorem sz64 : szB Go.Proofs.Try.prog 64 1 = true := by kernel_rfl
theorem sz66 : szB Go.Proofs.Try.prog 66 6 = true := by kernel_rfl
theorem sz86 : szB Go.Proofs.Try.prog 86 3 = true := by kernel_rfl
end Gx
namespace Gx
open Go Go.Proofs Go.Shelf Go.Sort Go.RowKit
set_option linter.unusedVariables false
set_option linter.unusedSimpArgs false
set_option maxRecDepth 100000
def sortRen : Go.Shelf.Ren := ⟨fun | 125 => 81 | 128 => 91 | 129 => 92 | 189 => 72 | 215 => 98 | 216 => 88 | 257 => 80 | 294 => 82 | 295 => 83 | 296 => 84 | 297 => 85 | 298 => 86 | 299 => 87 | 300 => 89 | 301 => 90 | 328 => 93 | 329 => 94 | 330 => 95 | 331 => 96 | 332 => 97 | 343 => 99 | n => n, fun | 0 => 0 | 3 => 3 | 4 => 4 | 5 => 5 | 9 => 9 | 28 => 54 | 46 => 111 | 51 => 49 | 53 => 106 | 131 => 135 | 182 => 129 | 183 => 130 | 218 => 139 | 222 => 143 | 228 => 145 | 229 => 146 | n => n, fun n => n⟩
theorem sortLays : Lays.n189 Try.prog sortRen := {
  mixed := by kernel_rfl
  f125 := Try.func81.trans (congrArg some (by kernel_rfl))
  f128 := Try.func91.trans (congrArg some (by kernel_rfl))
  f129 := Try.func92.trans (congrArg some (by kernel_rfl))
  f189 := Try.func72.trans (congrArg some (by kernel_rfl))
  f215 := Try.func98.trans (congrArg some (by kernel_rfl))
  f216 := Try.func88.trans (congrArg some (by kernel_rfl))
  f257 := Try.func80.trans (congrArg some (by kernel_rfl))
  f294 := Try.func82.trans (congrArg some (by kernel_rfl))
  f295 := Try.func83.trans (congrArg some (by kernel_rfl))
  f296 := Try.func84.trans (congrArg some (by kernel_rfl))
  f297 := Try.func85.trans (congrArg some (by kernel_rfl))
  f298 := Try.func86.trans (congrArg some (by kernel_rfl))
  f299 := Try.func87.trans (congrArg some (by kernel_rfl))
  f300 := Try.func89.trans (congrArg some (by kernel_rfl))
  f301 := Try.func90.trans (congrArg some (by kernel_rfl))
  f328 := Try.func93.trans (congrArg some (by kernel_rfl))
  f329 := Try.func94.trans (congrArg some (by kernel_rfl))
  f330 := Try.func95.trans (congrArg some (by kernel_rfl))
  f331 := Try.func96.trans (congrArg some (by kernel_rfl))
  f332 := Try.func97.trans (congrArg some (by kernel_rfl))
  f343 := Try.func99.trans (congrArg some (by kernel_rfl))
  t0 := Try.underlying0
  a0 := Try.isAgg0
  z0 := Try.sizeOf0
  v0 := Try.zeroValue0
  t3 := Try.underlying3
  a3 := Try.isAgg3
  z3 := Try.sizeOf3
  v3 := Try.zeroValue3
  t4 := Try.underlying4
  a4 := Try.isAgg4
  z4 := Try.sizeOf4
  v4 := Try.zeroValue4
  t5 := Try.underlying5
  a5 := Try.isAgg5
  z5 := Try.sizeOf5
  v5 := Try.zeroValue5
  t9 := Try.underlying9
  a9 := Try.isAgg9
  z9 := Try.sizeOf9
  v9 := Try.zeroValue9
  t28 := Try.underlying54
  a28 := Try.isAgg54
  z28 := Try.sizeOf54
  v28 := Try.zeroValue54
  t46 := Try.underlying111
  a46 := Try.isAgg111
  z46 := Try.sizeOf111
  v46 := Try.zeroValue111
  t51 := Try.underlying49
  a51 := Try.isAgg49
  z51 := Try.sizeOf49
  v51 := Try.zeroValue49
  t53 := Try.underlying106
  a53 := Try.isAgg106
  z53 := Try.sizeOf106
  v53 := Try.zeroValue106
  t131 := Try.underlying135
  a131 := Try.isAgg135
  z131 := Try.sizeOf135
  v131 := Try.zeroValue135
  t182 := Try.underlying129
  a182 := Try.isAgg129
  z182 := Try.sizeOf129
  v182 := Try.zeroValue129
  t183 := Try.underlying130
  a183 := Try.isAgg130
  z183 := Try.sizeOf130
  v183 := Try.zeroValue130
  t218 := Try.underlying139
  a218 := Try.isAgg139
  z218 := Try.sizeOf139
  v218 := Try.zeroValue139
  t222 := Try.underlying143
  a222 := Try.isAgg143
  z222 := Try.sizeOf143
  v222 := Try.zeroValue143
  t228 := Try.underlying145
  a228 := Try.isAgg145
  z228 := Try.sizeOf145
  v228 := Try.zeroValue145
  t229 := Try.underlying146
  a229 := Try.isAgg146
  z229 := Try.sizeOf146
  v229 := Try.zeroValue146 }
def sortI (zs : List Int) : List Int := zs.mergeSort fun x y => decide (x ≤ y)
/-- slices.Sort[[]int,int]: the library's contract -/
def slices_Sort_slint_int (x0 : Sl) : M Unit :=
  ⟨fun h Q => (x0.len = 0 ∧ Q () h) ∨ ∃ (b off : Nat) (cells : Array Value) (t : TypeId) (zs : List Int), x0.base = some ⟨b, off, none⟩ ∧ zs.length = x0.len ∧ h[b]? = some (.cells cells t (0, 0)) ∧ off + zs.length ≤ cells.size ∧
      (∀ (j : Nat) z, zs[j]? = some z → cells[off + j]? = some (.int .i64 z)) ∧ zs.length < 4611686018427387904 ∧
      ∀ h', h'[b]? = some (.cells (lay cells off ((sortI zs).map (Value.int .i64))) t (0, 0)) → (∀ i, i < h.size → i ≠ b → h'[i]? = h[i]?) → h.size ≤ h'.size → Q () h',
   fun hq H => H.imp (fun ⟨a, b⟩ => ⟨a, hq _ _ b⟩) (fun ⟨b, off, cells, t, zs, h1, h2, h3, h4, h5, h6, h7⟩ => ⟨b, off, cells, t, zs, h1, h2, h3, h4, h5, h6, fun h' a b c => hq _ _ (h7 h' a b c)⟩)⟩
theorem sort_lay {cells : Array Value} {off : Nat} {zs : List Int} (hl : off + zs.length ≤ cells.size) : putCells (Value.int .i64) off (sortI zs).toArray cells = lay cells off ((sortI zs).map (Value.int .i64)) := by
  have hs : (sortI zs).length = zs.length := List.length_mergeSort _
  apply Array.ext'
  rw [lay_toList _ _ _ (by rw [List.length_map, hs]; exact hl)]
  apply List.ext_getElem?
  intro i
  simp only [putCells, Array.getElem?_toList, Array.getElem?_mapIdx, List.size_toArray, hs, List.length_map]
  have htl : (cells.toList.take off).length = off := by rw [List.length_take, Array.length_toList]; omega
  rcases Nat.lt_or_ge i off with h1 | h1
  · rw [List.append_assoc, List.getElem?_append_left (by omega), List.getElem?_take, if_pos h1, Array.getElem?_toList]
    cases cells[i]? with
    | none => rfl
    | some v => simp only [Option.map_some]; rw [if_neg (by omega)]
  · rcases Nat.lt_or_ge i (off + zs.length) with h2 | h2
    · rw [List.append_assoc, List.getElem?_append_right (by omega), htl, List.getElem?_append_left (by rw [List.length_map, hs]; omega), List.getElem?_map]
      rw [Array.getElem?_eq_getElem (by omega)]
      simp only [Option.map_some]
      rw [if_pos ⟨h1, h2⟩, List.getElem?_eq_getElem (by rw [hs]; omega)]
      simp only [Option.map_some]
      congr 2
      rw [getElem!_pos _ _ (by simp; omega)]
      simp
    · rw [List.getElem?_append_right (by rw [List.length_append, htl, List.length_map, hs]; omega), List.length_append, htl, List.length_map, hs, List.getElem?_drop, Array.getElem?_toList, show off + zs.length + (i - (off + zs.length)) = i by omega]
      cases cells[i]? with
      | none => rfl
      | some v => simp only [Option.map_some]; rw [if_neg (by omega)]
theorem S_slices_Sort_slint_int (x0 : Sl) : Sound Try.prog 72 #[(x0 : Sl).v] (fun (r : Unit) => .tuple #[]) (slices_Sort_slint_int x0) := by
  intro w Q H
  obtain ⟨base, len, cap⟩ := x0
  rcases H with ⟨h0, hq⟩ | ⟨b, off, cells, t, zs, h1, h2, h3, h4, h5, h6, h7⟩
  · have h0' : len = 0 := h0
    subst h0'
    refine (Any.slices_Sort_int_none sortLays base cap w).mono ?_
    rintro e w' ⟨rfl, rfl⟩
    exact ⟨(), rfl, hq, Rest.refl _⟩
  · have h1' : base = some ⟨b, off, none⟩ := h1
    have h2' : zs.length = len := h2
    subst h1'; subst h2'
    have hH : Holds (Value.int .i64) w b off zs.toArray := fun j hj => by
      have hj' : j < zs.length := by simpa using hj
      have hz : zs[j]? = some zs[j] := List.getElem?_eq_getElem hj'
      refine ⟨?_, ?_⟩
      · rw [cell_h, hcell_blk h3, h5 j _ hz, getElem!_pos zs.toArray j hj]
        simp
      · have := hfrozen_blk (o := off + j) h3
        exact this
    refine (Any.slices_Sort_int sortLays b off cap zs w hH (blk_lt h3) h6).mono ?_
    rintro e w' ⟨rfl, n, os, rfl⟩
    refine ⟨(), rfl, h7 _ ?_ ?_ ?_, ⟨rfl, rfl⟩⟩
    · have hb := blk_lt h3
      show (w.heap.modify b (onCells (putCells (Value.int .i64) off (zs.mergeSort fun x y => decide (x ≤ y)).toArray)) ++ os)[b]? = _
      rw [Array.getElem?_append_left (by simpa using hb), Array.getElem?_modify, if_pos rfl, h3]
      simp only [Option.map_some, onCells]
      rw [show (zs.mergeSort fun x y => decide (x ≤ y)) = sortI zs from rfl, sort_lay h4]
    · intro i hi hne
      show (w.heap.modify b (onCells (putCells (Value.int .i64) off (zs.mergeSort fun x y => decide (x ≤ y)).toArray)) ++ os)[i]? = _
      rw [Array.getElem?_append_left (by simpa using hi), Array.getElem?_modify, if_neg (Ne.symm hne)]
    · show w.heap.size ≤ (w.heap.modify b (onCells (putCells (Value.int .i64) off (zs.mergeSort fun x y => decide (x ≤ y)).toArray)) ++ os).size
      simp
end Gx
namespace Gx
open Go
set_option linter.unusedVariables false
set_option maxRecDepth 100000
/-- ramble/disk.New -/
theorem tb9_3 : tabAt Go.Proofs.Try.f9 3 [[], [0, 0], [], [2, 2], [], [1, 3, 4], [5], [6, 0, 1, 2, 3, 4, 5, 6], [7, 0, 1, 2, 3, 4, 5, 6, 7]] [[], [0], [], [2], [], [1, 3, 4], [5], [6], []] [[], [0], [], [2], [], [0, 1, 2, 3, 4], [0, 1, 2, 3, 4, 5], [0, 1, 2, 3, 4, 5, 6], [0, 1, 2, 3, 4, 5, 6, 7]] = true := by kernel_rfl
def disk_New (x0 : Int) : M (Option Addr × Int) := do
  let x9_4 ← M.ite (decide (x0 < 1)) (do
    M.pure true
    ) (do
    M.pure (decide (x0 > 16384))
    )
  M.ite x9_4 (do
    M.pure ((none : Option Addr), 1)
    ) (do
    let y_22 ← do
      M.both (do
        let x11_7 ← mkS ty_api_Sector 128 128 (Array.replicate 128 (.int .u8 0) : Array Value) x0 x0
        M.both (do
          let x13_8 ← mkS ty_bool 1 1 (#[.bool false] : Array Value) x0 x0
          let x14_9 ← mkMap
          M.pure (x11_7, x13_8, x14_9, (#[(x11_7 : Sl).v, (x13_8 : Sl).v, .map x14_9, .bool false, .int .i64 0, .int .i64 0] : Array Value))
          ) (do
          let x14_10 ← mkMap
          let x13_11 ← mkS ty_bool 1 1 (#[.bool false] : Array Value) x0 x0
          M.pure (x11_7, x13_11, x14_10, (#[(x11_7 : Sl).v, (x13_11 : Sl).v, .map x14_10, .bool false, .int .i64 0, .int .i64 0] : Array Value))
          )
        ) (do
        M.both (do
          let x13_12 ← mkS ty_bool 1 1 (#[.bool false] : Array Value) x0 x0
          M.both (do
            let x11_13 ← mkS ty_api_Sector 128 128 (Array.replicate 128 (.int .u8 0) : Array Value) x0 x0
            let x14_14 ← mkMap
            M.pure (x11_13, x13_12, x14_14, (#[(x11_13 : Sl).v, (x13_12 : Sl).v, .map x14_14, .bool false, .int .i64 0, .int .i64 0] : Array Value))
            ) (do
            let x14_15 ← mkMap
            let x11_16 ← mkS ty_api_Sector 128 128 (Array.replicate 128 (.int .u8 0) : Array Value) x0 x0
            M.pure (x11_16, x13_12, x14_15, (#[(x11_16 : Sl).v, (x13_12 : Sl).v, .map x14_15, .bool false, .int .i64 0, .int .i64 0] : Array Value))
            )
          ) (do
          let x14_17 ← mkMap
          M.both (do
            let x11_18 ← mkS ty_api_Sector 128 128 (Array.replicate 128 (.int .u8 0) : Array Value) x0 x0
            let x13_19 ← mkS ty_bool 1 1 (#[.bool false] : Array Value) x0 x0
            M.pure (x11_18, x13_19, x14_17, (#[(x11_18 : Sl).v, (x13_19 : Sl).v, .map x14_17, .bool false, .int .i64 0, .int .i64 0] : Array Value))
            ) (do
            let x13_20 ← mkS ty_bool 1 1 (#[.bool false] : Array Value) x0 x0
            let x11_21 ← mkS ty_api_Sector 128 128 (Array.replicate 128 (.int .u8 0) : Array Value) x0 x0
            M.pure (x11_21, x13_20, x14_17, (#[(x11_21 : Sl).v, (x13_20 : Sl).v, .map x14_17, .bool false, .int .i64 0, .int .i64 0] : Array Value))
            )
          )
        )
    let x16_23 ← mkB ty_disk_Disk y_22.2.2.2
    M.pure (some x16_23, 0)
    )
theorem S_disk_New (x0 : Int) : Sound Go.Proofs.Try.prog 9 #[.int .i64 x0] (fun (r : Option Addr × Int) => .tuple #[.pointer r.1, .int .i64 r.2]) (disk_New x0) := by
  refine sound_of [(0, .int .i64 x0)] Go.Proofs.Try.func9 rfl rfl (Nat.le_of_ble_eq_true rfl) (args_of ⟨rfl, trivial⟩) (fun w0 w Q R a hret hE hR H => ?_)
  unfold disk_New at H
  refine w_seq (fun K hK_1 => ?_)
  refine t_region ?_
  refine t_val (v := .pointer (none : Option Addr)) rfl rfl hE rfl (r_assign hE rfl) (fun a hE => ?_)
  refine t_val (v := .int .i64 0) rfl rfl hE rfl (r_assign hE rfl) (fun a hE => ?_)
  refine t_nil ?_
  refine hK_1 _ _ ?_
  refine w_seq (fun K hK_2 => ?_)
  refine w_seq (fun K hK_3 => ?_)
  refine t_region ?_
  refine t_val (v := .int .i64 x0) rfl rfl hE rfl (r_move hE rfl) (fun a hE => ?_)
  refine t_val (v := .bool (decide (x0 < 1))) rfl rfl hE rfl (r_bin hE rfl rfl g_int b_lss) (fun a hE => ?_)
  refine t_val (v := .bool (decide (x0 < 1))) rfl rfl hE rfl (r_move hE rfl) (fun a hE => ?_)
  refine t_grp (n := (⟨17, []⟩ : Frm)) (w0 := w0) 3 (fun x9_4 : Bool => [(0, .int .i64 x0), (9, .bool x9_4)]) (M.unbind H) (fun Kr hKr H => ?_) ?_
  · rcases bool_em (decide (x0 < 1)) with hb | hb
    · replace H := M.ite_t hb H
      have hE := hE.reb 6 (decide (x0 < 1)) true hb rfl
      refine t_off rfl hE rfl rfl rfl (fun a ea => ?_)
      have hE := Env.put_some hE rfl ea; clear ea
      refine t_off rfl hE rfl rfl rfl (fun a ea => ?_)
      have hE := Env.put_some hE rfl ea; clear ea
      refine t_val rfl rfl hE rfl (r_pick_t hE rfl rfl) (fun a hE => ?_)
      refine t_nil ?_
      exact hKr _ _ _ (hE.cut (.cons rfl (.cons rfl Subs.nil))) hR H
    · replace H := M.ite_f hb H
      have hE := hE.reb 6 (decide (x0 < 1)) false hb rfl
      refine t_on rfl hE rfl rfl rfl ?_
      refine t_val (v := .int .i64 x0) rfl rfl hE rfl (r_move hE rfl) (fun a hE => ?_)
      refine t_on rfl hE rfl rfl rfl ?_
      refine t_val (v := .bool (decide (x0 > 16384))) rfl rfl hE rfl (r_bin hE rfl rfl g_int b_gtr) (fun a hE => ?_)
      refine t_val rfl rfl hE rfl (r_pick_f hE rfl rfl) (fun a hE => ?_)
      refine t_nil ?_
      exact hKr _ _ _ (hE.cut (.cons rfl (.cons rfl Subs.nil))) hR H
  · intro x9_4 a w hE hR H
    refine t_nil ?_
    refine hK_3 _ _ ?_
    refine w_cond x9_4 hE rfl (fun hb => ?_) (fun hb => ?_)
    · replace H := M.ite_t hb H
      refine w_seq (fun K hK_5 => ?_)
      refine t_region ?_
      refine t_val (v := .pointer (none : Option Addr)) rfl rfl hE rfl (r_assign hE rfl) (fun a hE => ?_)
      refine t_val (v := .int .i64 1) rfl rfl hE rfl (r_assign hE rfl) (fun a hE => ?_)
      refine t_nil ?_
      refine hK_5 _ _ ?_
      refine w_ret ?_
      exact hret _ _ _ ((none : Option Addr), 1) _ hE hR (res_run hE rfl (RV.tmp rfl (RV.tmp rfl RV.nil))) rfl H
    · replace H := M.ite_f hb H
      refine w_skip ?_
      refine hK_2 _ _ ?_
      refine w_seq (fun K hK_6 => ?_)
      have hT := tab_of tb9_3 rfl rfl
      refine d_start (fun w : World => (fun h : Heap => True) w.heap) [0, 1, 2, 3, 4, 5, 6, 7, 8] #[false, false, false, false, false, false, false, false, false] mo hR rfl rfl (fun w' e => by rw [e]; exact trivial) (fun w hh hR hs => ?_)
      replace H := M.at hh H; clear hh
      refine d_pureg (i := 0) (v := .int .i64 x0) #[true, false, false, false, false, false, false, false, false] rfl rfl hT (by kernel_rfl) hE rfl (wanted_none rfl) (fun w => r_move hE rfl) (fun a hE => ?_)
      refine d_pureg (i := 2) (v := .int .i64 x0) #[true, false, true, false, false, false, false, false, false] rfl rfl hT (by kernel_rfl) hE rfl (wanted_none rfl) (fun w => r_move hE rfl) (fun a hE => ?_)
      refine d_join (n := (⟨17, []⟩ : Frm)) (w0 := w0) (fun y_22 : Sl × Sl × Option Nat × Array Value => [(0, .int .i64 x0), (9, .bool x9_4), (10, .int .i64 x0), (12, .int .i64 x0), (11, (y_22.1 : Sl).v), (13, (y_22.2.1 : Sl).v), (14, .map y_22.2.2.1), (15, .agg y_22.2.2.2)]) 3 #[true, true, true, true, true, true, false, false, false] (M.unbind H) ?_ ?_
      · intro y_22 a w hE hR H
        obtain ⟨x16_23, qx16_23, H⟩ := H
        refine d_lasth (i := 6) (v := .pointer (some x16_23)) #[true, true, true, true, true, true, true, false, false] rfl rfl hT (by kernel_rfl) rfl hE hR rfl (wanted_none rfl) (r_box hE rfl qx16_23)  (fun a w hE hR hh => ?_)
        replace H := M.at hh H; clear hh
        refine d_pureg (i := 7) (v := .pointer (some x16_23)) #[true, true, true, true, true, true, true, true, false] rfl rfl hT (by kernel_rfl) hE rfl (wanted_none rfl) (fun w => r_assign hE rfl) (fun a hE => ?_)
        refine d_pureg (i := 8) (v := .int .i64 0) #[true, true, true, true, true, true, true, true, true] rfl rfl hT (by kernel_rfl) hE rfl (wanted_none rfl) (fun w => r_assign hE rfl) (fun a hE => ?_)
        refine d_done hT (by kernel_rfl) ?_
        refine hK_6 _ _ ?_
        refine w_ret ?_
        exact hret _ _ _ (some x16_23, 0) _ hE hR (res_run hE rfl (RV.tmp rfl (RV.tmp rfl RV.nil))) rfl H
      · intro hj H
        refine d_pick [1, 3, 4] hT (by kernel_rfl) rfl (fun i hi => ?_)
        simp only [List.mem_cons, List.not_mem_nil, or_false] at hi
        rcases hi with rfl | rfl | rfl
        · replace H := H.1
          refine p_ex (S := fun w : World => (fun h : Heap => True) w.heap) (i := 1) (fun x11_7 => (x11_7 : Sl).v) #[true, true, true, false, false, false, false, false, false] rfl rfl (by kernel_rfl) hR (wanted_none rfl) (M.unbind H) (fun Q H => mkS_run hE rfl rfl ap63 H) (fun _ _ _ _ _ => trivial) (fun x11_7 a w ea hR H hs => ?_)
          have hE := Env.put_some hE rfl ea; clear ea
          refine d_pick [3, 4] hT (by kernel_rfl) rfl (fun i hi => ?_)
          simp only [List.mem_cons, List.not_mem_nil, or_false] at hi
          rcases hi with rfl | rfl
          · replace H := H.1
            refine p_ex (S := fun w : World => (fun h : Heap => True) w.heap) (i := 3) (fun x13_8 => (x13_8 : Sl).v) #[true, true, true, true, false, false, false, false, false] rfl rfl (by kernel_rfl) hR (wanted_none rfl) (M.unbind H) (fun Q H => mkS_run hE rfl rfl ap45 H) (fun _ _ _ _ _ => trivial) (fun x13_8 a w ea hR H hs => ?_)
            have hE := Env.put_some hE rfl ea; clear ea
            obtain ⟨x14_9, qx14_9, H⟩ := H
            refine d_lasth (i := 4) (v := .map x14_9) #[true, true, true, true, true, false, false, false, false] rfl rfl hT (by kernel_rfl) rfl hE hR rfl (wanted_none rfl) (r_makeMap qx14_9)  (fun a w hE hR hh => ?_)
            replace H := M.at hh H; clear hh
            refine d_pureg (i := 5) (v := .agg (#[(x11_7 : Sl).v, (x13_8 : Sl).v, .map x14_9, .bool false, .int .i64 0, .int .i64 0] : Array Value)) #[true, true, true, true, true, true, false, false, false] rfl rfl hT (by kernel_rfl) hE rfl (wanted_none rfl) (fun w => r_build hE rfl zr66 pl66 (by rfl)) (fun a hE => ?_)
            exact hj _ _ _ (hE.cut (.cons rfl (.cons rfl (.cons rfl (.cons rfl (.cons rfl (.cons rfl (.cons rfl (.cons rfl Subs.nil))))))))) hR H
          · replace H := H.2
            obtain ⟨x14_10, qx14_10, H⟩ := H
            refine p_valh (S := fun w : World => (fun h : Heap => True) w.heap) (i := 4) (v := .map x14_10) #[true, true, true, false, true, false, false, false, false] rfl rfl (by kernel_rfl) hE hR rfl (wanted_none rfl) (r_makeMap qx14_10)  (fun _ _ => trivial) (fun a w hE hR hh hs => ?_)
            replace H := M.at hh H; clear hh
            refine d_exl (i := 3) (fun x13_11 => (x13_11 : Sl).v) #[true, true, true, true, true, false, false, false, false] rfl rfl hT (by kernel_rfl) rfl hR (wanted_none rfl) (M.unbind H) (fun Q H => mkS_run hE rfl rfl ap45 H) (fun x13_11 a w ea hR H => ?_)
            have hE := Env.put_some hE rfl ea; clear ea
            refine d_pureg (i := 5) (v := .agg (#[(x11_7 : Sl).v, (x13_11 : Sl).v, .map x14_10, .bool false, .int .i64 0, .int .i64 0] : Array Value)) #[true, true, true, true, true, true, false, false, false] rfl rfl hT (by kernel_rfl) hE rfl (wanted_none rfl) (fun w => r_build hE rfl zr66 pl66 (by rfl)) (fun a hE => ?_)
            exact hj _ _ _ (hE.cut (.cons rfl (.cons rfl (.cons rfl (.cons rfl (.cons rfl (.cons rfl (.cons rfl (.cons rfl Subs.nil))))))))) hR H
        · replace H := H.2.1
          refine p_ex (S := fun w : World => (fun h : Heap => True) w.heap) (i := 3) (fun x13_12 => (x13_12 : Sl).v) #[true, false, true, true, false, false, false, false, false] rfl rfl (by kernel_rfl) hR (wanted_none rfl) (M.unbind H) (fun Q H => mkS_run hE rfl rfl ap45 H) (fun _ _ _ _ _ => trivial) (fun x13_12 a w ea hR H hs => ?_)
          have hE := Env.put_some hE rfl ea; clear ea
          refine d_pick [1, 4] hT (by kernel_rfl) rfl (fun i hi => ?_)
          simp only [List.mem_cons, List.not_mem_nil, or_false] at hi
          rcases hi with rfl | rfl
          · replace H := H.1
            refine p_ex (S := fun w : World => (fun h : Heap => True) w.heap) (i := 1) (fun x11_13 => (x11_13 : Sl).v) #[true, true, true, true, false, false, false, false, false] rfl rfl (by kernel_rfl) hR (wanted_none rfl) (M.unbind H) (fun Q H => mkS_run hE rfl rfl ap63 H) (fun _ _ _ _ _ => trivial) (fun x11_13 a w ea hR H hs => ?_)
            have hE := Env.put_some hE rfl ea; clear ea
            obtain ⟨x14_14, qx14_14, H⟩ := H
            refine d_lasth (i := 4) (v := .map x14_14) #[true, true, true, true, true, false, false, false, false] rfl rfl hT (by kernel_rfl) rfl hE hR rfl (wanted_none rfl) (r_makeMap qx14_14)  (fun a w hE hR hh => ?_)
            replace H := M.at hh H; clear hh
            refine d_pureg (i := 5) (v := .agg (#[(x11_13 : Sl).v, (x13_12 : Sl).v, .map x14_14, .bool false, .int .i64 0, .int .i64 0] : Array Value)) #[true, true, true, true, true, true, false, false, false] rfl rfl hT (by kernel_rfl) hE rfl (wanted_none rfl) (fun w => r_build hE rfl zr66 pl66 (by rfl)) (fun a hE => ?_)
            exact hj _ _ _ (hE.cut (.cons rfl (.cons rfl (.cons rfl (.cons rfl (.cons rfl (.cons rfl (.cons rfl (.cons rfl Subs.nil))))))))) hR H
          · replace H := H.2
            obtain ⟨x14_15, qx14_15, H⟩ := H
            refine p_valh (S := fun w : World => (fun h : Heap => True) w.heap) (i := 4) (v := .map x14_15) #[true, false, true, true, true, false, false, false, false] rfl rfl (by kernel_rfl) hE hR rfl (wanted_none rfl) (r_makeMap qx14_15)  (fun _ _ => trivial) (fun a w hE hR hh hs => ?_)
            replace H := M.at hh H; clear hh
            refine d_exl (i := 1) (fun x11_16 => (x11_16 : Sl).v) #[true, true, true, true, true, false, false, false, false] rfl rfl hT (by kernel_rfl) rfl hR (wanted_none rfl) (M.unbind H) (fun Q H => mkS_run hE rfl rfl ap63 H) (fun x11_16 a w ea hR H => ?_)
            have hE := Env.put_some hE rfl ea; clear ea
            refine d_pureg (i := 5) (v := .agg (#[(x11_16 : Sl).v, (x13_12 : Sl).v, .map x14_15, .bool false, .int .i64 0, .int .i64 0] : Array Value)) #[true, true, true, true, true, true, false, false, false] rfl rfl hT (by kernel_rfl) hE rfl (wanted_none rfl) (fun w => r_build hE rfl zr66 pl66 (by rfl)) (fun a hE => ?_)
            exact hj _ _ _ (hE.cut (.cons rfl (.cons rfl (.cons rfl (.cons rfl (.cons rfl (.cons rfl (.cons rfl (.cons rfl Subs.nil))))))))) hR H
        · replace H := H.2.2
          obtain ⟨x14_17, qx14_17, H⟩ := H
          refine p_valh (S := fun w : World => (fun h : Heap => True) w.heap) (i := 4) (v := .map x14_17) #[true, false, true, false, true, false, false, false, false] rfl rfl (by kernel_rfl) hE hR rfl (wanted_none rfl) (r_makeMap qx14_17)  (fun _ _ => trivial) (fun a w hE hR hh hs => ?_)
          replace H := M.at hh H; clear hh
          refine d_pick [1, 3] hT (by kernel_rfl) rfl (fun i hi => ?_)
          simp only [List.mem_cons, List.not_mem_nil, or_false] at hi
          rcases hi with rfl | rfl
          · replace H := H.1
            refine p_ex (S := fun w : World => (fun h : Heap => True) w.heap) (i := 1) (fun x11_18 => (x11_18 : Sl).v) #[true, true, true, false, true, false, false, false, false] rfl rfl (by kernel_rfl) hR (wanted_none rfl) (M.unbind H) (fun Q H => mkS_run hE rfl rfl ap63 H) (fun _ _ _ _ _ => trivial) (fun x11_18 a w ea hR H hs => ?_)
            have hE := Env.put_some hE rfl ea; clear ea
            refine d_exl (i := 3) (fun x13_19 => (x13_19 : Sl).v) #[true, true, true, true, true, false, false, false, false] rfl rfl hT (by kernel_rfl) rfl hR (wanted_none rfl) (M.unbind H) (fun Q H => mkS_run hE rfl rfl ap45 H) (fun x13_19 a w ea hR H => ?_)
            have hE := Env.put_some hE rfl ea; clear ea
            refine d_pureg (i := 5) (v := .agg (#[(x11_18 : Sl).v, (x13_19 : Sl).v, .map x14_17, .bool false, .int .i64 0, .int .i64 0] : Array Value)) #[true, true, true, true, true, true, false, false, false] rfl rfl hT (by kernel_rfl) hE rfl (wanted_none rfl) (fun w => r_build hE rfl zr66 pl66 (by rfl)) (fun a hE => ?_)
            exact hj _ _ _ (hE.cut (.cons rfl (.cons rfl (.cons rfl (.cons rfl (.cons rfl (.cons rfl (.cons rfl (.cons rfl Subs.nil))))))))) hR H
          · replace H := H.2
            refine p_ex (S := fun w : World => (fun h : Heap => True) w.heap) (i := 3) (fun x13_20 => (x13_20 : Sl).v) #[true, false, true, true, true, false, false, false, false] rfl rfl (by kernel_rfl) hR (wanted_none rfl) (M.unbind H) (fun Q H => mkS_run hE rfl rfl ap45 H) (fun _ _ _ _ _ => trivial) (fun x13_20 a w ea hR H hs => ?_)
            have hE := Env.put_some hE rfl ea; clear ea
            refine d_exl (i := 1) (fun x11_21 => (x11_21 : Sl).v) #[true, true, true, true, true, false, false, false, false] rfl rfl hT (by kernel_rfl) rfl hR (wanted_none rfl) (M.unbind H) (fun Q H => mkS_run hE rfl rfl ap63 H) (fun x11_21 a w ea hR H => ?_)
            have hE := Env.put_some hE rfl ea; clear ea
            refine d_pureg (i := 5) (v := .agg (#[(x11_21 : Sl).v, (x13_20 : Sl).v, .map x14_17, .bool false, .int .i64 0, .int .i64 0] : Array Value)) #[true, true, true, true, true, true, false, false, false] rfl rfl hT (by kernel_rfl) hE rfl (wanted_none rfl) (fun w => r_build hE rfl zr66 pl66 (by rfl)) (fun a hE => ?_)
            exact hj _ _ _ (hE.cut (.cons rfl (.cons rfl (.cons rfl (.cons rfl (.cons rfl (.cons rfl (.cons rfl (.cons rfl Subs.nil))))))))) hR H

/-- (*ramble/disk.Disk).none -/
def disk_Disk_none (x0 : Option Addr) : M (Bool) := do
  let x11_3 ← M.ite ((x0).isNone) (do
    M.pure true
    ) (do
    let x7_4 ← nilP x0
    let x9_5 ← ldMp ((x7_4).add 2)
    M.pure ((x9_5).isNone)
    )
  M.pure x11_3
theorem S_disk_Disk_none (x0 : Option Addr) : Sound Go.Proofs.Try.prog 54 #[.pointer x0] (fun (r : Bool) => .bool r) (disk_Disk_none x0) := by
  refine sound_of [(0, .pointer x0)] Go.Proofs.Try.func54 rfl rfl (Nat.le_of_ble_eq_true rfl) (args_of ⟨rfl, trivial⟩) (fun w0 w Q R a hret hE hR H => ?_)
  unfold disk_Disk_none at H
  refine w_seq (fun K hK_1 => ?_)
  refine t_region ?_
  refine t_val (v := .bool false) rfl rfl hE rfl (r_assign hE rfl) (fun a hE => ?_)
  refine t_nil ?_
  refine hK_1 _ _ ?_
  refine w_seq (fun K hK_2 => ?_)
  refine t_region ?_
  refine t_val (v := .pointer x0) rfl rfl hE rfl (r_move hE rfl) (fun a hE => ?_)
  refine t_val (v := .bool ((x0).isNone)) rfl rfl hE rfl (r_bin hE rfl rfl g_ptr (b_eqlP un23)) (fun a hE => ?_)
  refine t_val (v := .bool ((x0).isNone)) rfl rfl hE rfl (r_move hE rfl) (fun a hE => ?_)
  refine t_grp (n := (⟨12, []⟩ : Frm)) (w0 := w0) 6 (fun x11_3 : Bool => [(2, .bool false), (11, .bool x11_3)]) (M.unbind H) (fun Kr hKr H => ?_) ?_
  · rcases bool_em ((x0).isNone) with hb | hb
    · replace H := M.ite_t hb H
      have hE := hE.reb 5 ((x0).isNone) true hb rfl
      refine t_off rfl hE rfl rfl rfl (fun a ea => ?_)
      have hE := Env.put_some hE rfl ea; clear ea
      refine t_off rfl hE rfl rfl rfl (fun a ea => ?_)
      have hE := Env.put_some hE rfl ea; clear ea
      refine t_off rfl hE rfl rfl rfl (fun a ea => ?_)
      have hE := Env.put_some hE rfl ea; clear ea
      refine t_off rfl hE rfl rfl rfl (fun a ea => ?_)
      have hE := Env.put_some hE rfl ea; clear ea
      refine t_off rfl hE rfl rfl rfl (fun a ea => ?_)
      have hE := Env.put_some hE rfl ea; clear ea
      refine t_val rfl rfl hE rfl (r_pick_t hE rfl rfl) (fun a hE => ?_)
      refine t_nil ?_
      exact hKr _ _ _ (hE.cut (.cons rfl (.cons rfl Subs.nil))) hR H
    · replace H := M.ite_f hb H
      have hE := hE.reb 5 ((x0).isNone) false hb rfl
      refine t_on rfl hE rfl rfl rfl ?_
      refine t_val (v := .pointer x0) rfl rfl hE rfl (r_move hE rfl) (fun a hE => ?_)
      refine t_on rfl hE rfl rfl rfl ?_
      obtain ⟨x7_4, qx7_4, H⟩ := H
      refine t_val (v := .pointer (some x7_4)) rfl rfl hE rfl (r_nilCheck hE (hx_eq rfl (congrArg Value.pointer qx7_4))) (fun a hE => ?_)
      refine t_on rfl hE rfl rfl rfl ?_
      refine t_val (v := .pointer (some ((x7_4).add 2))) rfl rfl hE rfl (r_fieldAddr hE rfl fd66_2) (fun a hE => ?_)
      refine t_on rfl hE rfl rfl rfl ?_
      obtain ⟨x9_5, qx9_5, H⟩ := H
      refine t_val (v := .map x9_5) rfl rfl hE rfl (r_load hE rfl sc64 qx9_5) (fun a hE => ?_)
      refine t_on rfl hE rfl rfl rfl ?_
      refine t_val (v := .bool ((x9_5).isNone)) rfl rfl hE rfl (r_bin hE rfl rfl g_mp (b_eqlM un64)) (fun a hE => ?_)
      refine t_val rfl rfl hE rfl (r_pick_f hE rfl rfl) (fun a hE => ?_)
      refine t_nil ?_
      exact hKr _ _ _ (hE.cut (.cons rfl (.cons rfl Subs.nil))) hR H
  · intro x11_3 a w hE hR H
    refine t_val (v := .bool x11_3) rfl rfl hE rfl (r_assign hE rfl) (fun a hE => ?_)
    refine t_nil ?_
    refine hK_2 _ _ ?_
    refine w_ret ?_
    exact hret _ _ _ x11_3 _ hE hR (res_run hE rfl (RV.tmp rfl RV.nil)) rfl H

/-- (*ramble/disk.Disk).can -/
def disk_Disk_can (x0 : Option Addr) : M (Int) := do
  let x5_4 ← disk_Disk_none x0
  M.ite x5_4 (do
    M.pure 2
    ) (do
    let x8_7 ← nilP x0
    let x10_8 ← ldB ((x8_7).add 3)
    M.ite x10_8 (do
      M.pure 9
      ) (do
      M.pure 0
      )
    )
theorem S_disk_Disk_can (x0 : Option Addr) : Sound Go.Proofs.Try.prog 50 #[.pointer x0] (fun (r : Int) => .int .i64 r) (disk_Disk_can x0) := by
  refine sound_of [(0, .pointer x0)] Go.Proofs.Try.func50 rfl rfl (Nat.le_of_ble_eq_true rfl) (args_of ⟨rfl, trivial⟩) (fun w0 w Q R a hret hE hR H => ?_)
  unfold disk_Disk_can at H
  refine w_seq (fun K hK_1 => ?_)
  refine t_region ?_
  refine t_val (v := .int .i64 0) rfl rfl hE rfl (r_assign hE rfl) (fun a hE => ?_)
  refine t_nil ?_
  refine hK_1 _ _ ?_
  refine w_seq (fun K hK_2 => ?_)
  refine w_block ?_
  refine w_seq (fun K hK_3 => ?_)
  refine t_region ?_
  refine t_val (v := .pointer x0) rfl rfl hE rfl (r_move hE rfl) (fun a hE => ?_)
  refine t_call hE hR cl_disk_Disk_none rfl (S_disk_Disk_none x0) (M.unbind H) (fun x5_4 a w ea hR H => ?_)
  have hE := Env.put_some hE rfl ea; clear ea
  refine t_val (v := .bool x5_4) rfl rfl hE rfl (r_assign hE rfl) (fun a hE => ?_)
  refine t_nil ?_
  refine hK_3 _ _ ?_
  refine w_cond x5_4 hE rfl (fun hb => ?_) (fun hb => ?_)
  · replace H := M.ite_t hb H
    refine w_seq (fun K hK_5 => ?_)
    refine t_region ?_
    refine t_val (v := .int .i64 2) rfl rfl hE rfl (r_assign hE rfl) (fun a hE => ?_)
    refine t_nil ?_
    refine hK_5 _ _ ?_
    refine w_ret ?_
    exact hret _ _ _ 2 _ hE hR (res_run hE rfl (RV.tmp rfl RV.nil)) rfl H
  · replace H := M.ite_f hb H
    refine w_seq (fun K hK_6 => ?_)
    refine t_region ?_
    refine t_val (v := .pointer x0) rfl rfl hE rfl (r_move hE rfl) (fun a hE => ?_)
    obtain ⟨x8_7, qx8_7, H⟩ := H
    refine t_val (v := .pointer (some x8_7)) rfl rfl hE rfl (r_nilCheck hE (hx_eq rfl (congrArg Value.pointer qx8_7))) (fun a hE => ?_)
    refine t_val (v := .pointer (some ((x8_7).add 3))) rfl rfl hE rfl (r_fieldAddr hE rfl fd66_3) (fun a hE => ?_)
    obtain ⟨x10_8, qx10_8, H⟩ := H
    refine t_val (v := .bool x10_8) rfl rfl hE rfl (r_load hE rfl sc4 qx10_8) (fun a hE => ?_)
    refine t_val (v := .bool x10_8) rfl rfl hE rfl (r_assign hE rfl) (fun a hE => ?_)
    refine t_nil ?_
    refine hK_6 _ _ ?_
    refine w_cond x10_8 hE rfl (fun hb => ?_) (fun hb => ?_)
    · replace H := M.ite_t hb H
      refine w_seq (fun K hK_9 => ?_)
      refine t_region ?_
      refine t_val (v := .int .i64 9) rfl rfl hE rfl (r_assign hE rfl) (fun a hE => ?_)
      refine t_nil ?_
      refine hK_9 _ _ ?_
      refine w_ret ?_
      exact hret _ _ _ 9 _ hE hR (res_run hE rfl (RV.tmp rfl RV.nil)) rfl H
    · replace H := M.ite_f hb H
      refine w_skip ?_
      refine hK_2 _ _ ?_
      refine w_seq (fun K hK_10 => ?_)
      refine t_region ?_
      refine t_val (v := .int .i64 0) rfl rfl hE rfl (r_assign hE rfl) (fun a hE => ?_)
      refine t_nil ?_
      refine hK_10 _ _ ?_
      refine w_ret ?_
      exact hret _ _ _ 0 _ hE hR (res_run hE rfl (RV.tmp rfl RV.nil)) rfl H

/-- (*ramble/disk.Disk).there -/
def disk_Disk_there (x0 : Option Addr) (x1 : Int) : M (Int) := do
  let x15_4 ← M.ite (decide (x1 < 0)) (do
    M.pure true
    ) (do
    let x10_5 ← nilP x0
    let x12_6 ← ldL ((x10_5).add 0)
    M.pure (decide (x1 ≥ (x12_6.len : Int)))
    )
  M.ite x15_4 (do
    M.pure 41
    ) (do
    M.pure 0
    )
theorem S_disk_Disk_there (x0 : Option Addr) (x1 : Int) : Sound Go.Proofs.Try.prog 51 #[.pointer x0, .int .i64 x1] (fun (r : Int) => .int .i64 r) (disk_Disk_there x0 x1) := by
  refine sound_of [(0, .pointer x0), (1, .int .i64 x1)] Go.Proofs.Try.func51 rfl rfl (Nat.le_of_ble_eq_true rfl) (args_of ⟨rfl, rfl, trivial⟩) (fun w0 w Q R a hret hE hR H => ?_)
  unfold disk_Disk_there at H
  refine w_seq (fun K hK_1 => ?_)
  refine t_region ?_
  refine t_val (v := .int .i64 0) rfl rfl hE rfl (r_assign hE rfl) (fun a hE => ?_)
  refine t_nil ?_
  refine hK_1 _ _ ?_
  refine w_seq (fun K hK_2 => ?_)
  refine w_seq (fun K hK_3 => ?_)
  refine t_region ?_
  refine t_val (v := .int .i64 x1) rfl rfl hE rfl (r_move hE rfl) (fun a hE => ?_)
  refine t_val (v := .bool (decide (x1 < 0))) rfl rfl hE rfl (r_bin hE rfl rfl g_int b_lss) (fun a hE => ?_)
  refine t_val (v := .bool (decide (x1 < 0))) rfl rfl hE rfl (r_move hE rfl) (fun a hE => ?_)
  refine t_grp (n := (⟨16, []⟩ : Frm)) (w0 := w0) 8 (fun x15_4 : Bool => [(15, .bool x15_4)]) (M.unbind H) (fun Kr hKr H => ?_) ?_
  · rcases bool_em (decide (x1 < 0)) with hb | hb
    · replace H := M.ite_t hb H
      have hE := hE.reb 7 (decide (x1 < 0)) true hb rfl
      refine t_off rfl hE rfl rfl rfl (fun a ea => ?_)
      have hE := Env.put_some hE rfl ea; clear ea
      refine t_off rfl hE rfl rfl rfl (fun a ea => ?_)
      have hE := Env.put_some hE rfl ea; clear ea
      refine t_off rfl hE rfl rfl rfl (fun a ea => ?_)
      have hE := Env.put_some hE rfl ea; clear ea
      refine t_off rfl hE rfl rfl rfl (fun a ea => ?_)
      have hE := Env.put_some hE rfl ea; clear ea
      refine t_off rfl hE rfl rfl rfl (fun a ea => ?_)
      have hE := Env.put_some hE rfl ea; clear ea
      refine t_off rfl hE rfl rfl rfl (fun a ea => ?_)
      have hE := Env.put_some hE rfl ea; clear ea
      refine t_off rfl hE rfl rfl rfl (fun a ea => ?_)
      have hE := Env.put_some hE rfl ea; clear ea
      refine t_val rfl rfl hE rfl (r_pick_t hE rfl rfl) (fun a hE => ?_)
      refine t_nil ?_
      exact hKr _ _ _ (hE.cut (.cons rfl Subs.nil)) hR H
    · replace H := M.ite_f hb H
      have hE := hE.reb 7 (decide (x1 < 0)) false hb rfl
      refine t_on rfl hE rfl rfl rfl ?_
      refine t_val (v := .int .i64 x1) rfl rfl hE rfl (r_move hE rfl) (fun a hE => ?_)
      refine t_on rfl hE rfl rfl rfl ?_
      refine t_val (v := .pointer x0) rfl rfl hE rfl (r_move hE rfl) (fun a hE => ?_)
      refine t_on rfl hE rfl rfl rfl ?_
      obtain ⟨x10_5, qx10_5, H⟩ := H
      refine t_val (v := .pointer (some x10_5)) rfl rfl hE rfl (r_nilCheck hE (hx_eq rfl (congrArg Value.pointer qx10_5))) (fun a hE => ?_)
      refine t_on rfl hE rfl rfl rfl ?_
      refine t_val (v := .pointer (some ((x10_5).add 0))) rfl rfl hE rfl (r_fieldAddr hE rfl fd66_0) (fun a hE => ?_)
      refine t_on rfl hE rfl rfl rfl ?_
      obtain ⟨x12_6, qx12_6, H⟩ := H
      refine t_val (v := (x12_6 : Sl).v) rfl rfl hE rfl (r_load hE rfl sc63 qx12_6) (fun a hE => ?_)
      refine t_on rfl hE rfl rfl rfl ?_
      refine t_val (v := .int .i64 (x12_6.len : Int)) rfl rfl hE rfl (r_len hE rfl 47 un63) (fun a hE => ?_)
      refine t_on rfl hE rfl rfl rfl ?_
      refine t_val (v := .bool (decide (x1 ≥ (x12_6.len : Int)))) rfl rfl hE rfl (r_bin hE rfl rfl g_int b_geq) (fun a hE => ?_)
      refine t_val rfl rfl hE rfl (r_pick_f hE rfl rfl) (fun a hE => ?_)
      refine t_nil ?_
      exact hKr _ _ _ (hE.cut (.cons rfl Subs.nil)) hR H
  · intro x15_4 a w hE hR H
    refine t_nil ?_
    refine hK_3 _ _ ?_
    refine w_cond x15_4 hE rfl (fun hb => ?_) (fun hb => ?_)
    · replace H := M.ite_t hb H
      refine w_seq (fun K hK_7 => ?_)
      refine t_region ?_
      refine t_val (v := .int .i64 41) rfl rfl hE rfl (r_assign hE rfl) (fun a hE => ?_)
      refine t_nil ?_
      refine hK_7 _ _ ?_
      refine w_ret ?_
      exact hret _ _ _ 41 _ hE hR (res_run hE rfl (RV.tmp rfl RV.nil)) rfl H
    · replace H := M.ite_f hb H
      refine w_skip ?_
      refine hK_2 _ _ ?_
      refine w_seq (fun K hK_8 => ?_)
      refine t_region ?_
      refine t_val (v := .int .i64 0) rfl rfl hE rfl (r_assign hE rfl) (fun a hE => ?_)
      refine t_nil ?_
      refine hK_8 _ _ ?_
      refine w_ret ?_
      exact hret _ _ _ 0 _ hE hR (res_run hE rfl (RV.tmp rfl RV.nil)) rfl H

/-- (*ramble/disk.Disk).call -/
def disk_Disk_call_j1 (c0_2 : Option Addr) : M (Int) := do
  let x24_4 ← nilP c0_2
  let x26_5 ← ldI .i64 ((x24_4).add 5)
  let x28_6 ← nilP c0_2
  stV ((x28_6).add 5) (.int .i64 (IntKind.wrap .i64 (x26_5 + 1)))
  M.pure 0
def disk_Disk_call (x0 : Option Addr) : M (Int) := do
  let x4_10 ← nilP x0
  let x6_11 ← ldI .i64 ((x4_10).add 4)
  M.ite (decide (x6_11 > 0)) (do
    let x9_13 ← nilP x0
    let x11_14 ← ldI .i64 ((x9_13).add 4)
    let x13_15 ← nilP x0
    stV ((x13_15).add 4) (.int .i64 (IntKind.wrap .i64 (x11_14 - 1)))
    let x16_18 ← nilP x0
    let x18_19 ← ldI .i64 ((x16_18).add 4)
    M.ite (x18_19 == 0) (do
      let x21_21 ← nilP x0
      stV ((x21_21).add 3) (.bool true)
      M.pure 9
      ) (do
      disk_Disk_call_j1 x0
      )
    ) (do
    disk_Disk_call_j1 x0
    )
theorem S_disk_Disk_call (x0 : Option Addr) : Sound Go.Proofs.Try.prog 52 #[.pointer x0] (fun (r : Int) => .int .i64 r) (disk_Disk_call x0) := by
  refine sound_of [(0, .pointer x0)] Go.Proofs.Try.func52 rfl rfl (Nat.le_of_ble_eq_true rfl) (args_of ⟨rfl, trivial⟩) (fun w0 w Q R a hret hE hR H => ?_)
  unfold disk_Disk_call at H
  refine w_seq (fun K hK_1 => ?_)
  refine t_region ?_
  refine t_val (v := .int .i64 0) rfl rfl hE rfl (r_assign hE rfl) (fun a hE => ?_)
  refine t_nil ?_
  refine hK_1 _ _ ?_
  refine w_seq_join (fun a w => Env (⟨30, []⟩ : Frm) a [(0, .pointer x0)] ∧ Rest w0 w ∧ (disk_Disk_call_j1 x0).wp w.heap Q) ?_ ?_
  · rintro a w ⟨hE, hR, H⟩
    unfold disk_Disk_call_j1 at H
    refine w_seq (fun K hK_3 => ?_)
    refine t_region ?_
    refine t_val (v := .pointer x0) rfl rfl hE rfl (r_move hE rfl) (fun a hE => ?_)
    obtain ⟨x24_4, qx24_4, H⟩ := H
    refine t_val (v := .pointer (some x24_4)) rfl rfl hE rfl (r_nilCheck hE (hx_eq rfl (congrArg Value.pointer qx24_4))) (fun a hE => ?_)
    refine t_val (v := .pointer (some ((x24_4).add 5))) rfl rfl hE rfl (r_fieldAddr hE rfl fd66_5) (fun a hE => ?_)
    obtain ⟨x26_5, qx26_5, H⟩ := H
    refine t_val (v := .int .i64 x26_5) rfl rfl hE rfl (r_load hE rfl sc2 qx26_5) (fun a hE => ?_)
    refine t_val (v := .int .i64 (IntKind.wrap .i64 (x26_5 + 1))) rfl rfl hE rfl (r_bin hE rfl rfl g_int b_add) (fun a hE => ?_)
    obtain ⟨x28_6, qx28_6, H⟩ := H
    refine t_val (v := .pointer (some x28_6)) rfl rfl hE rfl (r_nilCheck hE (hx_eq rfl (congrArg Value.pointer qx28_6))) (fun a hE => ?_)
    refine t_val (v := .pointer (some ((x28_6).add 5))) rfl rfl hE rfl (r_fieldAddr hE rfl fd66_5) (fun a hE => ?_)
    obtain ⟨u_7, qu_7, H⟩ := H
    refine t_sth rfl rfl hE hR (r_store hE rfl rfl sz2 qu_7) (fun a w hE hR hh => ?_)
    replace H := M.at hh H; clear hh
    refine t_nil ?_
    refine hK_3 _ _ ?_
    refine w_seq (fun K hK_8 => ?_)
    refine t_region ?_
    refine t_val (v := .int .i64 0) rfl rfl hE rfl (r_assign hE rfl) (fun a hE => ?_)
    refine t_nil ?_
    refine hK_8 _ _ ?_
    refine w_ret ?_
    exact hret _ _ _ 0 _ hE hR (res_run hE rfl (RV.tmp rfl RV.nil)) rfl H
  · skip
    refine w_seq (fun K hK_9 => ?_)
    refine t_region ?_
    refine t_val (v := .pointer x0) rfl rfl hE rfl (r_move hE rfl) (fun a hE => ?_)
    obtain ⟨x4_10, qx4_10, H⟩ := H
    refine t_val (v := .pointer (some x4_10)) rfl rfl hE rfl (r_nilCheck hE (hx_eq rfl (congrArg Value.pointer qx4_10))) (fun a hE => ?_)
    refine t_val (v := .pointer (some ((x4_10).add 4))) rfl rfl hE rfl (r_fieldAddr hE rfl fd66_4) (fun a hE => ?_)
    obtain ⟨x6_11, qx6_11, H⟩ := H
    refine t_val (v := .int .i64 x6_11) rfl rfl hE rfl (r_load hE rfl sc3 qx6_11) (fun a hE => ?_)
    refine t_val (v := .bool (decide (x6_11 > 0))) rfl rfl hE rfl (r_bin hE rfl rfl g_int b_gtr) (fun a hE => ?_)
    refine t_nil ?_
    refine hK_9 _ _ ?_
    refine w_cond (decide (x6_11 > 0)) hE rfl (fun hb => ?_) (fun hb => ?_)
    · replace H := M.ite_t hb H
      refine w_seq (fun K hK_12 => ?_)
      refine t_region ?_
      refine t_val (v := .pointer x0) rfl rfl hE rfl (r_move hE rfl) (fun a hE => ?_)
      obtain ⟨x9_13, qx9_13, H⟩ := H
      refine t_val (v := .pointer (some x9_13)) rfl rfl hE rfl (r_nilCheck hE (hx_eq rfl (congrArg Value.pointer qx9_13))) (fun a hE => ?_)
      refine t_val (v := .pointer (some ((x9_13).add 4))) rfl rfl hE rfl (r_fieldAddr hE rfl fd66_4) (fun a hE => ?_)
      obtain ⟨x11_14, qx11_14, H⟩ := H
      refine t_val (v := .int .i64 x11_14) rfl rfl hE rfl (r_load hE rfl sc3 qx11_14) (fun a hE => ?_)
      refine t_val (v := .int .i64 (IntKind.wrap .i64 (x11_14 - 1))) rfl rfl hE rfl (r_bin hE rfl rfl g_int b_sub) (fun a hE => ?_)
      obtain ⟨x13_15, qx13_15, H⟩ := H
      refine t_val (v := .pointer (some x13_15)) rfl rfl hE rfl (r_nilCheck hE (hx_eq rfl (congrArg Value.pointer qx13_15))) (fun a hE => ?_)
      refine t_val (v := .pointer (some ((x13_15).add 4))) rfl rfl hE rfl (r_fieldAddr hE rfl fd66_4) (fun a hE => ?_)
      obtain ⟨u_16, qu_16, H⟩ := H
      refine t_sth rfl rfl hE hR (r_store hE rfl rfl sz3 qu_16) (fun a w hE hR hh => ?_)
      replace H := M.at hh H; clear hh
      refine t_nil ?_
      refine hK_12 _ _ ?_
      refine w_seq (fun K hK_17 => ?_)
      refine t_region ?_
      refine t_val (v := .pointer x0) rfl rfl hE rfl (r_move hE rfl) (fun a hE => ?_)
      obtain ⟨x16_18, qx16_18, H⟩ := H
      refine t_val (v := .pointer (some x16_18)) rfl rfl hE rfl (r_nilCheck hE (hx_eq rfl (congrArg Value.pointer qx16_18))) (fun a hE => ?_)
      refine t_val (v := .pointer (some ((x16_18).add 4))) rfl rfl hE rfl (r_fieldAddr hE rfl fd66_4) (fun a hE => ?_)
      obtain ⟨x18_19, qx18_19, H⟩ := H
      refine t_val (v := .int .i64 x18_19) rfl rfl hE rfl (r_load hE rfl sc3 qx18_19) (fun a hE => ?_)
      refine t_val (v := .bool (x18_19 == 0)) rfl rfl hE rfl (r_bin hE rfl rfl g_int b_eql) (fun a hE => ?_)
      refine t_nil ?_
      refine hK_17 _ _ ?_
      refine w_cond (x18_19 == 0) hE rfl (fun hb => ?_) (fun hb => ?_)
      · replace H := M.ite_t hb H
        refine w_seq (fun K hK_20 => ?_)
        refine t_region ?_
        refine t_val (v := .pointer x0) rfl rfl hE rfl (r_move hE rfl) (fun a hE => ?_)
        obtain ⟨x21_21, qx21_21, H⟩ := H
        refine t_val (v := .pointer (some x21_21)) rfl rfl hE rfl (r_nilCheck hE (hx_eq rfl (congrArg Value.pointer qx21_21))) (fun a hE => ?_)
        refine t_val (v := .pointer (some ((x21_21).add 3))) rfl rfl hE rfl (r_fieldAddr hE rfl fd66_3) (fun a hE => ?_)
        obtain ⟨u_22, qu_22, H⟩ := H
        refine t_sth rfl rfl hE hR (r_store hE rfl rfl sz4 qu_22) (fun a w hE hR hh => ?_)
        replace H := M.at hh H; clear hh
        refine t_nil ?_
        refine hK_20 _ _ ?_
        refine w_seq (fun K hK_23 => ?_)
        refine t_region ?_
        refine t_val (v := .int .i64 9) rfl rfl hE rfl (r_assign hE rfl) (fun a hE => ?_)
        refine t_nil ?_
        refine hK_23 _ _ ?_
        refine w_ret ?_
        exact hret _ _ _ 9 _ hE hR (res_run hE rfl (RV.tmp rfl RV.nil)) rfl H
      · replace H := M.ite_f hb H
        refine w_skip ?_
        exact ⟨hE.cut (.cons rfl Subs.nil), hR, H⟩
    · replace H := M.ite_f hb H
      refine w_skip ?_
      exact ⟨hE.cut (.cons rfl Subs.nil), hR, H⟩

/-- (*ramble/disk.Disk).Write -/
theorem tb21_10 : tabAt Go.Proofs.Try.f21 10 [[], [0], [1], [2], [], [], [3, 4, 5, 0, 1, 2, 3, 4, 5]] [[], [0], [1], [2], [], [], [3, 4, 5]] [[], [0], [0, 1], [0, 1, 2], [], [], [0, 1, 2, 3, 4, 5]] = true := by kernel_rfl
def disk_Disk_Write (x0 : Option Addr) (x1 : Int) (x2 : Array Value) : M (Int) := do
  let x5_2 ← mkB ty_api_Sector x2
  let x11_5 ← disk_Disk_can x0
  M.ite (x11_5 != 0) (do
    M.pure x11_5
    ) (do
    let x17_10 ← disk_Disk_there x0 x1
    M.ite (x17_10 != 0) (do
      M.pure x17_10
      ) (do
      let x22_15 ← disk_Disk_call x0
      M.ite (x22_15 != 0) (do
        M.pure x22_15
        ) (do
        let x27_19 ← nilP x0
        let x29_20 ← ldMp ((x27_19).add 2)
        let x31_21 ← ldG 128 x5_2
        upM (.int .i64) (.int .i64 x1) (.agg x31_21) x29_20
        M.pure 0
        )
      )
    )
theorem S_disk_Disk_Write (x0 : Option Addr) (x1 : Int) (x2 : Array Value) : Sound Go.Proofs.Try.prog 21 #[.pointer x0, .int .i64 x1, .agg x2] (fun (r : Int) => .int .i64 r) (disk_Disk_Write x0 x1 x2) := by
  refine sound_of [(0, .pointer x0), (1, .int .i64 x1), (2, .agg x2)] Go.Proofs.Try.func21 rfl rfl (Nat.le_of_ble_eq_true rfl) (args_of ⟨rfl, rfl, rfl, trivial⟩) (fun w0 w Q R a hret hE hR H => ?_)
  unfold disk_Disk_Write at H
  refine w_seq (fun K hK_1 => ?_)
  refine t_region ?_
  obtain ⟨x5_2, qx5_2, H⟩ := H
  refine t_valh (v := .pointer (some x5_2)) rfl rfl hE rfl hR (r_box hE rfl qx5_2) (fun a w hE hR hh => ?_)
  replace H := M.at hh H; clear hh
  refine t_val (v := .int .i64 0) rfl rfl hE rfl (r_assign hE rfl) (fun a hE => ?_)
  refine t_nil ?_
  refine hK_1 _ _ ?_
  refine w_seq (fun K hK_3 => ?_)
  refine w_seq (fun K hK_4 => ?_)
  refine t_region ?_
  refine t_val (v := .pointer x0) rfl rfl hE rfl (r_move hE rfl) (fun a hE => ?_)
  refine t_call hE hR cl_disk_Disk_can rfl (S_disk_Disk_can x0) (M.unbind H) (fun x11_5 a w ea hR H => ?_)
  have hE := Env.put_some hE rfl ea; clear ea
  refine t_val (v := .int .i64 x11_5) rfl rfl hE rfl (r_assign hE rfl) (fun a hE => ?_)
  refine t_nil ?_
  refine hK_4 _ _ ?_
  refine w_seq (fun K hK_6 => ?_)
  refine t_region ?_
  refine t_val (v := .int .i64 x11_5) rfl rfl hE rfl (r_move hE rfl) (fun a hE => ?_)
  refine t_val (v := .bool (x11_5 != 0)) rfl rfl hE rfl (r_bin hE rfl rfl g_int b_neq) (fun a hE => ?_)
  refine t_nil ?_
  refine hK_6 _ _ ?_
  refine w_cond (x11_5 != 0) hE rfl (fun hb => ?_) (fun hb => ?_)
  · replace H := M.ite_t hb H
    refine w_seq (fun K hK_7 => ?_)
    refine t_region ?_
    refine t_val (v := .int .i64 x11_5) rfl rfl hE rfl (r_move hE rfl) (fun a hE => ?_)
    refine t_val (v := .int .i64 x11_5) rfl rfl hE rfl (r_assign hE rfl) (fun a hE => ?_)
    refine t_nil ?_
    refine hK_7 _ _ ?_
    refine w_ret ?_
    exact hret _ _ _ x11_5 _ hE hR (res_run hE rfl (RV.tmp rfl RV.nil)) rfl H
  · replace H := M.ite_f hb H
    refine w_skip ?_
    refine hK_3 _ _ ?_
    refine w_seq (fun K hK_8 => ?_)
    refine w_seq (fun K hK_9 => ?_)
    refine t_region ?_
    refine t_val (v := .pointer x0) rfl rfl hE rfl (r_move hE rfl) (fun a hE => ?_)
    refine t_val (v := .int .i64 x1) rfl rfl hE rfl (r_move hE rfl) (fun a hE => ?_)
    refine t_call hE hR cl_disk_Disk_there rfl (S_disk_Disk_there x0 x1) (M.unbind H) (fun x17_10 a w ea hR H => ?_)
    have hE := Env.put_some hE rfl ea; clear ea
    refine t_val (v := .int .i64 x17_10) rfl rfl hE rfl (r_assign hE rfl) (fun a hE => ?_)
    refine t_nil ?_
    refine hK_9 _ _ ?_
    refine w_seq (fun K hK_11 => ?_)
    refine t_region ?_
    refine t_val (v := .int .i64 x17_10) rfl rfl hE rfl (r_move hE rfl) (fun a hE => ?_)
    refine t_val (v := .bool (x17_10 != 0)) rfl rfl hE rfl (r_bin hE rfl rfl g_int b_neq) (fun a hE => ?_)
    refine t_nil ?_
    refine hK_11 _ _ ?_
    refine w_cond (x17_10 != 0) hE rfl (fun hb => ?_) (fun hb => ?_)
    · replace H := M.ite_t hb H
      refine w_seq (fun K hK_12 => ?_)
      refine t_region ?_
      refine t_val (v := .int .i64 x17_10) rfl rfl hE rfl (r_move hE rfl) (fun a hE => ?_)
      refine t_val (v := .int .i64 x17_10) rfl rfl hE rfl (r_assign hE rfl) (fun a hE => ?_)
      refine t_nil ?_
      refine hK_12 _ _ ?_
      refine w_ret ?_
      exact hret _ _ _ x17_10 _ hE hR (res_run hE rfl (RV.tmp rfl RV.nil)) rfl H
    · replace H := M.ite_f hb H
      refine w_skip ?_
      refine hK_8 _ _ ?_
      refine w_seq (fun K hK_13 => ?_)
      refine w_seq (fun K hK_14 => ?_)
      refine t_region ?_
      refine t_val (v := .pointer x0) rfl rfl hE rfl (r_move hE rfl) (fun a hE => ?_)
      refine t_call hE hR cl_disk_Disk_call rfl (S_disk_Disk_call x0) (M.unbind H) (fun x22_15 a w ea hR H => ?_)
      have hE := Env.put_some hE rfl ea; clear ea
      refine t_val (v := .int .i64 x22_15) rfl rfl hE rfl (r_assign hE rfl) (fun a hE => ?_)
      refine t_nil ?_
      refine hK_14 _ _ ?_
      refine w_seq (fun K hK_16 => ?_)
      refine t_region ?_
      refine t_val (v := .int .i64 x22_15) rfl rfl hE rfl (r_move hE rfl) (fun a hE => ?_)
      refine t_val (v := .bool (x22_15 != 0)) rfl rfl hE rfl (r_bin hE rfl rfl g_int b_neq) (fun a hE => ?_)
      refine t_nil ?_
      refine hK_16 _ _ ?_
      refine w_cond (x22_15 != 0) hE rfl (fun hb => ?_) (fun hb => ?_)
      · replace H := M.ite_t hb H
        refine w_seq (fun K hK_17 => ?_)
        refine t_region ?_
        refine t_val (v := .int .i64 x22_15) rfl rfl hE rfl (r_move hE rfl) (fun a hE => ?_)
        refine t_val (v := .int .i64 x22_15) rfl rfl hE rfl (r_assign hE rfl) (fun a hE => ?_)
        refine t_nil ?_
        refine hK_17 _ _ ?_
        refine w_ret ?_
        exact hret _ _ _ x22_15 _ hE hR (res_run hE rfl (RV.tmp rfl RV.nil)) rfl H
      · replace H := M.ite_f hb H
        refine w_skip ?_
        refine hK_13 _ _ ?_
        refine w_seq (fun K hK_18 => ?_)
        obtain ⟨x27_19, qx27_19, H⟩ := H
        obtain ⟨x29_20, qx29_20, H⟩ := H
        obtain ⟨x31_21, qx31_21, H⟩ := H
        have hT := tab_of tb21_10 rfl rfl
        refine d_start (fun w : World => (fun h : Heap => (hcell h ((x27_19).add 2) = some (.map x29_20)) ∧ (x31_21.size = 128 ∧ ∀ i, i < 128 → hcell h (Addr.add x5_2 i) = x31_21[i]?)) w.heap) [6] #[false, false, false, false, false, false, false] mo hR rfl rfl (fun w' e => by rw [e]; exact ⟨qx29_20, qx31_21⟩) (fun w hh hR hs => ?_)
        replace H := M.at hh H; clear hh
        refine d_pureg (i := 0) (v := .pointer x0) #[true, false, false, false, false, false, false] rfl rfl hT (by kernel_rfl) hE rfl (wanted_none rfl) (fun w => r_move hE rfl) (fun a hE => ?_)
        refine d_pureg (i := 1) (v := .pointer (some x27_19)) #[true, true, false, false, false, false, false] rfl rfl hT (by kernel_rfl) hE rfl (wanted_none rfl) (fun w => r_nilCheck hE (hx_eq rfl (congrArg Value.pointer qx27_19))) (fun a hE => ?_)
        refine d_pureg (i := 2) (v := .pointer (some ((x27_19).add 2))) #[true, true, true, false, false, false, false] rfl rfl hT (by kernel_rfl) hE rfl (wanted_none rfl) (fun w => r_fieldAddr hE rfl fd66_2) (fun a hE => ?_)
        refine d_pureg (i := 4) (v := .int .i64 x1) #[true, true, true, false, true, false, false] rfl rfl hT (by kernel_rfl) hE rfl (wanted_none rfl) (fun w => r_move hE rfl) (fun a hE => ?_)
        refine d_read (i := 3) (v := .map x29_20) #[true, true, true, true, true, false, false] rfl rfl hT (by kernel_rfl) hE rfl (wanted_none rfl) hs (fun w s => r_load hE rfl sc64 s.1) (fun a hE => ?_)
        refine d_read (i := 5) (v := .agg x31_21) #[true, true, true, true, true, true, false] rfl rfl hT (by kernel_rfl) hE rfl (wanted_none rfl) hs (fun w s => r_loadG hE rfl ag47 s.2) (fun a hE => ?_)
        obtain ⟨u_22, qu_22, H⟩ := H
        refine d_stlh (i := 6) #[true, true, true, true, true, true, true] rfl rfl hT (by kernel_rfl) rfl hE hR (wanted_none rfl) (r_update hE rfl rfl rfl un64 un3 rfl qu_22)  (fun a w hE hR hh => ?_)
        replace H := M.at hh H; clear hh
        refine d_done hT (by kernel_rfl) ?_
        refine hK_18 _ _ ?_
        refine w_seq (fun K hK_23 => ?_)
        refine t_region ?_
        refine t_val (v := .int .i64 0) rfl rfl hE rfl (r_assign hE rfl) (fun a hE => ?_)
        refine t_nil ?_
        refine hK_23 _ _ ?_
        refine w_ret ?_
        exact hret _ _ _ 0 _ hE hR (res_run hE rfl (RV.tmp rfl RV.nil)) rfl H

/-- ramble/ramblelaw04.filled -/
def ramblelaw04_filled_l1 (c0_8 : Int) (c2_9 : Addr) (c3_10 : Addr) (self1 : (Int) → M (Array Value)) : (Int) → M (Array Value) := fun s => match s with
  | x5_7 => do
    M.ite (decide (x5_7 < 128)) (do
      let x10_16 ← ixA c3_10 128 x5_7 1
      stV x10_16 (.int .u8 c0_8)
      self1 (IntKind.wrap .i64 (x5_7 + 1))
      ) (do
      let x12_19 ← ldG 128 c3_10
      M.need (x12_19.size = 128)
      stG c2_9 x12_19
      let r2_21 ← ldG 128 c2_9
      M.pure r2_21
      )
def ramblelaw04_filled (x0 : Int) : M (Array Value) := do
  let x2_2 ← mkB ty_api_Sector (Array.replicate 128 (.int .u8 0) : Array Value)
  let x3_4 ← mkB ty_api_Sector (Array.replicate 128 (.int .u8 0) : Array Value)
  M.loop (ramblelaw04_filled_l1 x0 x2_2 x3_4) 0
theorem S_ramblelaw04_filled (x0 : Int) : Sound Go.Proofs.Try.prog 22 #[.int .u8 x0] (fun (r : Array Value) => .agg r) (ramblelaw04_filled x0) := by
  refine sound_of [(0, .int .u8 x0)] Go.Proofs.Try.func22 rfl rfl (Nat.le_of_ble_eq_true rfl) (args_of ⟨rfl, trivial⟩) (fun w0 w Q R a hret hE hR H => ?_)
  unfold ramblelaw04_filled at H
  refine w_seq (fun K hK_1 => ?_)
  refine t_region ?_
  obtain ⟨x2_2, qx2_2, H⟩ := H
  refine t_valh (v := .pointer (some x2_2)) rfl rfl hE rfl hR (r_alloc zr47 qx2_2) (fun a w hE hR hh => ?_)
  replace H := M.at hh H; clear hh
  refine t_nil ?_
  refine hK_1 _ _ ?_
  refine w_seq (fun K hK_3 => ?_)
  refine t_region ?_
  obtain ⟨x3_4, qx3_4, H⟩ := H
  refine t_valh (v := .pointer (some x3_4)) rfl rfl hE rfl hR (r_alloc zr47 qx3_4) (fun a w hE hR hh => ?_)
  replace H := M.at hh H; clear hh
  refine t_nil ?_
  refine hK_3 _ _ ?_
  refine w_seq (fun K hK_5 => ?_)
  refine w_seq (fun K hK_6 => ?_)
  refine t_region ?_
  refine t_val (v := .int .i64 0) rfl rfl hE rfl (r_move hE rfl) (fun a hE => ?_)
  refine t_nil ?_
  refine hK_6 _ _ ?_
  refine w_block ?_
  refine l_loop (fun (s : Int) => (⟨13, []⟩ : Frm)) (fun (s : Int) => [(0, .int .u8 x0), (2, .pointer (some x2_2)), (3, .pointer (some x3_4)), (5, .int .i64 s)]) H (hE.cut (.cons rfl (.cons rfl (.cons rfl (.cons rfl Subs.nil))))) hR (fun Y self1 hY_11 x5_7 a w hE hR H => ?_)
  replace hE : Env (⟨13, []⟩ : Frm) a [(0, .int .u8 x0), (2, .pointer (some x2_2)), (3, .pointer (some x3_4)), (5, .int .i64 x5_7)] := hE
  replace H : (ramblelaw04_filled_l1 x0 x2_2 x3_4 self1 x5_7).wp w.heap Q := H
  unfold ramblelaw04_filled_l1 at H
  refine w_seq (fun K hK_12 => ?_)
  refine t_region ?_
  refine t_val (v := .bool (decide (x5_7 < 128))) rfl rfl hE rfl (r_bin hE rfl rfl g_int b_lss) (fun a hE => ?_)
  refine t_nil ?_
  refine hK_12 _ _ ?_
  refine w_seq (fun K hK_13 => ?_)
  refine w_cond (decide (x5_7 < 128)) hE rfl (fun hb => ?_) (fun hb => ?_)
  · replace H := M.ite_t hb H
    refine w_skip ?_
    refine hK_13 _ _ ?_
    refine w_seq (fun K hK_14 => ?_)
    refine w_block ?_
    refine w_seq (fun K hK_15 => ?_)
    refine t_region ?_
    refine t_val (v := .int .i64 x5_7) rfl rfl hE rfl (r_move hE rfl) (fun a hE => ?_)
    refine t_val (v := .int .i64 x5_7) rfl rfl hE rfl (r_assign hE rfl) (fun a hE => ?_)
    refine t_nil ?_
    refine hK_15 _ _ ?_
    refine t_region ?_
    refine t_val (v := .int .i64 x5_7) rfl rfl hE rfl (r_move hE rfl) (fun a hE => ?_)
    refine t_val (v := .int .u8 x0) rfl rfl hE rfl (r_move hE rfl) (fun a hE => ?_)
    obtain ⟨x10_16, qx10_16, H⟩ := H
    refine t_val (v := .pointer (some x10_16)) rfl rfl hE rfl (r_indexAddrA hE rfl rfl un47 sz5 qx10_16) (fun a hE => ?_)
    obtain ⟨u_17, qu_17, H⟩ := H
    refine t_sth rfl rfl hE hR (r_store hE rfl rfl sz5 qu_17) (fun a w hE hR hh => ?_)
    replace H := M.at hh H; clear hh
    refine t_nil ?_
    refine hK_14 _ _ ?_
    refine t_region ?_
    refine t_val (v := .int .i64 (IntKind.wrap .i64 (x5_7 + 1))) rfl rfl hE rfl (r_bin hE rfl rfl g_int b_add) (fun a hE => ?_)
    refine t_val (v := .int .i64 (IntKind.wrap .i64 (x5_7 + 1))) rfl rfl hE rfl (r_move hE rfl) (fun a hE => ?_)
    refine t_nil ?_
    exact hY_11 (IntKind.wrap .i64 (x5_7 + 1)) _ _ (hE.cut (.cons rfl (.cons rfl (.cons rfl (.cons rfl Subs.nil))))) hR H
  · replace H := M.ite_f hb H
    refine w_exit ?_
    refine Xu.same ?_
    refine hK_5 _ _ ?_
    refine w_seq (fun K hK_18 => ?_)
    refine t_region ?_
    obtain ⟨x12_19, qx12_19, H⟩ := H
    refine t_val (v := .agg x12_19) rfl rfl hE rfl (r_loadG hE rfl ag47 qx12_19) (fun a hE => ?_)
    obtain ⟨qz, H⟩ := H
    obtain ⟨u_20, qu_20, H⟩ := H
    refine t_sth rfl rfl hE hR (r_storeG hE rfl rfl sz47 qz qu_20) (fun a w hE hR hh => ?_)
    replace H := M.at hh H; clear hh
    refine t_nil ?_
    refine hK_18 _ _ ?_
    refine w_ret ?_
    obtain ⟨r2_21, qr2_21, H⟩ := H
    exact hret _ _ _ r2_21 _ hE hR (res_run hE rfl (RV.cellG rfl ag47 qr2_21 RV.nil)) rfl H

/-- slices.AppendSeq[[]int,int] -/
def slices_AppendSeq_slint_int_y1 (c2_5 : Addr) (lp1 : Nat) : (Int) → M Nat := fun x => match x with
  | x7_6 => do
    let _ ← beg lp1
    let x8_7 ← ldL c2_5
    let x10_8 ← bdL ty_int 1 #[.int .i64 x7_6]
    let x11_9 ← apL ty_int 1 8 (#[.int .i64 0] : Array Value) x8_7 x10_8
    stV c2_5 ((x11_9 : Sl).v)
    M.pure 0
def slices_AppendSeq_slint_int (x0 : Sl) (x1 : Value) : M (Sl) := do
  let x2_2 ← mkB ty_sl_int #[(x0 : Sl).v]
  let j_11 ← rgF Go.Proofs.Try.prog (fun x : Int => [.int .i64 x]) [] (slices_AppendSeq_slint_int_y1 x2_2) x1
  let x12_13 ← ldL x2_2
  let _ ← shut (j_11.2 :: [])
  M.pure x12_13
theorem S_slices_AppendSeq_slint_int (x0 : Sl) (x1 : Value) : Sound Go.Proofs.Try.prog 79 #[(x0 : Sl).v, x1] (fun (r : Sl) => (r : Sl).v) (slices_AppendSeq_slint_int x0 x1) := by
  refine sound_ofM [(0, (x0 : Sl).v), (1, x1)] Go.Proofs.Try.func79 rfl rfl (Nat.le_of_ble_eq_true rfl) (args_of ⟨rfl, rfl, trivial⟩) (fun w0 w Q R a hret hE hR H => ?_)
  unfold slices_AppendSeq_slint_int at H
  refine w_seq (fun K hK_1 => ?_)
  refine t_region ?_
  obtain ⟨x2_2, qx2_2, H⟩ := H
  refine t_valh (v := .pointer (some x2_2)) rfl rfl hE rfl hR (r_box hE rfl qx2_2) (fun a w hE hR hh => ?_)
  replace H := M.at hh H; clear hh
  refine t_val (v := (Sl.nil : Sl).v) rfl rfl hE rfl (r_assign hE rfl) (fun a hE => ?_)
  refine t_nil ?_
  refine hK_1 _ _ ?_
  refine w_seq (fun K hK_3 => ?_)
  refine w_seq (fun K hK_4 => ?_)
  refine t_region ?_
  refine t_val (v := x1) rfl rfl hE rfl (r_move hE rfl) (fun a hE => ?_)
  refine t_nil ?_
  refine hK_4 _ _ ?_
  refine w_block ?_
  refine w_rangeF (js := []) (enc := (fun x : Int => [.int .i64 x])) (Y := (slices_AppendSeq_slint_int_y1 x2_2)) hE hR rfl (fun x => rfl) rfl (M.unbind H) (fun lp1 x7_6 Q w0 Rr hfin a w hE hR H => ?_) (fun j_11 a w hE hR H => ?_)
  · skip
    replace hE : Env (⟨13, []⟩ : Frm) a [(2, .pointer (some x2_2)), (7, .int .i64 x7_6)] := Env.cut hE (.cons rfl (.cons rfl Subs.nil))
    replace H : (slices_AppendSeq_slint_int_y1 x2_2 lp1 x7_6).wp w.heap Q := H
    unfold slices_AppendSeq_slint_int_y1 at H
    refine t_region ?_
    refine t_val (v := .int .i64 x7_6) rfl rfl hE rfl (r_assign hE rfl) (fun a hE => ?_)
    refine t_nil ?_
    refine beg_w hR H (fun w hR H => ?_)
    refine w_block ?_
    refine t_region ?_
    obtain ⟨x8_7, qx8_7, H⟩ := H
    refine t_val (v := (x8_7 : Sl).v) rfl rfl hE rfl (r_load hE rfl sc54 qx8_7) (fun a hE => ?_)
    refine t_val (v := .int .i64 x7_6) rfl rfl hE rfl (r_move hE rfl) (fun a hE => ?_)
    obtain ⟨x10_8, qx10_8, H⟩ := H
    refine t_valh (v := (x10_8 : Sl).v) rfl rfl hE rfl hR (r_buildL (cells := #[.int .i64 x7_6]) hE rfl un54 sz3 zr3 rfl rfl qx10_8) (fun a w hE hR hh => ?_)
    replace H := M.at hh H; clear hh
    refine t_ex (fun x11_9 => (x11_9 : Sl).v) rfl rfl hR (M.unbind H) (fun Q H => ap_run hE rfl rfl ap54 H) (fun x11_9 a w ea hR H => ?_)
    have hE := Env.put_some hE rfl ea; clear ea
    obtain ⟨u_10, qu_10, H⟩ := H
    refine t_sth rfl rfl hE hR (r_store hE rfl rfl sz54 qu_10) (fun a w hE hR hh => ?_)
    replace H := M.at hh H; clear hh
    refine t_nil ?_
    exact hfin 0 _ _ hR H
  · skip
    replace hE : Env (⟨13, (j_11.2 :: [])⟩ : Frm) a [(2, .pointer (some x2_2)), (4, (Sl.nil : Sl).v)] := Env.cut hE (.cons rfl (.cons rfl Subs.nil))
    refine jgo_nil ?_
    refine hK_3 _ _ ?_
    refine w_seq (fun K hK_12 => ?_)
    refine t_region ?_
    obtain ⟨x12_13, qx12_13, H⟩ := H
    refine t_val (v := (x12_13 : Sl).v) rfl rfl hE rfl (r_load hE rfl sc54 qx12_13) (fun a hE => ?_)
    refine t_val (v := (x12_13 : Sl).v) rfl rfl hE rfl (r_assign hE rfl) (fun a hE => ?_)
    refine t_nil ?_
    refine hK_12 _ _ ?_
    refine w_ret ?_
    refine hret _ _ _ _ _ hE hR (M.unbind H) (fun w hR H => ?_)
    exact ⟨x12_13, _, res_run hE rfl (RV.tmp rfl RV.nil), rfl, H⟩

/-- slices.Collect[int] -/
def slices_Collect_int (x0 : Value) : M (Sl) := do
  let x4_3 ← slices_AppendSeq_slint_int Sl.nil x0
  M.pure x4_3
theorem S_slices_Collect_int (x0 : Value) : Sound Go.Proofs.Try.prog 71 #[x0] (fun (r : Sl) => (r : Sl).v) (slices_Collect_int x0) := by
  refine sound_of [(0, x0)] Go.Proofs.Try.func71 rfl rfl (Nat.le_of_ble_eq_true rfl) (args_of ⟨rfl, trivial⟩) (fun w0 w Q R a hret hE hR H => ?_)
  unfold slices_Collect_int at H
  refine w_seq (fun K hK_1 => ?_)
  refine t_region ?_
  refine t_val (v := (Sl.nil : Sl).v) rfl rfl hE rfl (r_assign hE rfl) (fun a hE => ?_)
  refine t_nil ?_
  refine hK_1 _ _ ?_
  refine w_seq (fun K hK_2 => ?_)
  refine t_region ?_
  refine t_val (v := x0) rfl rfl hE rfl (r_move hE rfl) (fun a hE => ?_)
  refine t_call hE hR cl_slices_AppendSeq_slint_int rfl (S_slices_AppendSeq_slint_int Sl.nil x0) (M.unbind H) (fun x4_3 a w ea hR H => ?_)
  have hE := Env.put_some hE rfl ea; clear ea
  refine t_val (v := (x4_3 : Sl).v) rfl rfl hE rfl (r_assign hE rfl) (fun a hE => ?_)
  refine t_nil ?_
  refine hK_2 _ _ ?_
  refine w_ret ?_
  exact hret _ _ _ x4_3 _ hE hR (res_run hE rfl (RV.tmp rfl RV.nil)) rfl H

/-- slices.Sorted[int] -/
def slices_Sorted_int (x0 : Value) : M (Sl) := do
  let x5_3 ← slices_Collect_int x0
  let x7_5 ← slices_Sort_slint_int x5_3
  M.pure x5_3
theorem S_slices_Sorted_int (x0 : Value) : Sound Go.Proofs.Try.prog 55 #[x0] (fun (r : Sl) => (r : Sl).v) (slices_Sorted_int x0) := by
  refine sound_of [(0, x0)] Go.Proofs.Try.func55 rfl rfl (Nat.le_of_ble_eq_true rfl) (args_of ⟨rfl, trivial⟩) (fun w0 w Q R a hret hE hR H => ?_)
  unfold slices_Sorted_int at H
  refine w_seq (fun K hK_1 => ?_)
  refine t_region ?_
  refine t_val (v := (Sl.nil : Sl).v) rfl rfl hE rfl (r_assign hE rfl) (fun a hE => ?_)
  refine t_nil ?_
  refine hK_1 _ _ ?_
  refine w_seq (fun K hK_2 => ?_)
  refine t_region ?_
  refine t_val (v := x0) rfl rfl hE rfl (r_move hE rfl) (fun a hE => ?_)
  refine t_call hE hR cl_slices_Collect_int rfl (S_slices_Collect_int x0) (M.unbind H) (fun x5_3 a w ea hR H => ?_)
  have hE := Env.put_some hE rfl ea; clear ea
  refine t_val (v := (x5_3 : Sl).v) rfl rfl hE rfl (r_assign hE rfl) (fun a hE => ?_)
  refine t_nil ?_
  refine hK_2 _ _ ?_
  refine w_seq (fun K hK_4 => ?_)
  refine t_region ?_
  refine t_val (v := (x5_3 : Sl).v) rfl rfl hE rfl (r_move hE rfl) (fun a hE => ?_)
  refine t_call hE hR cl_slices_Sort_slint_int rfl (S_slices_Sort_slint_int x5_3) (M.unbind H) (fun x7_5 a w ea hR H => ?_)
  have hE := Env.put_some hE rfl ea; clear ea
  refine t_nil ?_
  refine hK_4 _ _ ?_
  refine w_seq (fun K hK_6 => ?_)
  refine t_region ?_
  refine t_val (v := (x5_3 : Sl).v) rfl rfl hE rfl (r_move hE rfl) (fun a hE => ?_)
  refine t_val (v := (x5_3 : Sl).v) rfl rfl hE rfl (r_assign hE rfl) (fun a hE => ?_)
  refine t_nil ?_
  refine hK_6 _ _ ?_
  refine w_ret ?_
  exact hret _ _ _ x5_3 _ hE hR (res_run hE rfl (RV.tmp rfl RV.nil)) rfl H

/-- maps.Keys[map[int]ramble/api.Sector,int,ramble/api.Sector]$1 -/
def maps_Keys_map_int_api_Sector_int_api_Sector_1_l1 (c0_4 : Value) (c5_5 : Addr) (self1 : (Unit) → M (Unit)) : (Unit) → M (Unit) := fun s => match s with
  | () => do
    let x6_8 ← nxM c5_5
    let x7_9 ← exB x6_8 0
    M.ite x7_9 (do
      let x8_12 ← enM c5_5
      let x9_13 ← exI .i64 x8_12.1
      let x12_15 ← callV Go.Proofs.Try.prog (fun r : Bool => .bool r) c0_4 [.int .i64 x9_13]
      M.ite (!x12_15) (do
        M.pure ()
        ) (do
        self1 ()
        )
      ) (do
      M.pure ()
      )
def maps_Keys_map_int_api_Sector_int_api_Sector_1 (x0 : Value) (x1 : Addr) : M (Unit) := do
  let x4_2 ← ldMp x1
  let x5_3 ← rgM x4_2
  M.loop (maps_Keys_map_int_api_Sector_int_api_Sector_1_l1 x0 x5_3) ()
theorem S_maps_Keys_map_int_api_Sector_int_api_Sector_1 (x0 : Value) (x1 : Addr) : Sound Go.Proofs.Try.prog 73 #[x0, .pointer (some x1)] (fun (r : Unit) => .tuple #[]) (maps_Keys_map_int_api_Sector_int_api_Sector_1 x0 x1) := by
  refine sound_of [(0, x0), (1, .pointer (some x1))] Go.Proofs.Try.func73 rfl rfl (Nat.le_of_ble_eq_true rfl) (args_of ⟨rfl, rfl, trivial⟩) (fun w0 w Q R a hret hE hR H => ?_)
  unfold maps_Keys_map_int_api_Sector_int_api_Sector_1 at H
  refine w_seq (fun K hK_1 => ?_)
  refine t_region ?_
  obtain ⟨x4_2, qx4_2, H⟩ := H
  refine t_val (v := .map x4_2) rfl rfl hE rfl (r_load hE rfl sc64 qx4_2) (fun a hE => ?_)
  obtain ⟨x5_3, qx5_3, H⟩ := H
  refine t_valh (v := .pointer (some x5_3)) rfl rfl hE rfl hR (r_range hE rfl un64 qx5_3) (fun a w hE hR hh => ?_)
  replace H := M.at hh H; clear hh
  refine t_nil ?_
  refine hK_1 _ _ ?_
  refine w_block ?_
  refine l_loop (fun (s : Unit) => (⟨14, []⟩ : Frm)) (fun (s : Unit) => [(0, x0), (5, .pointer (some x5_3))]) H (hE.cut (.cons rfl (.cons rfl Subs.nil))) hR (fun Y self1 hY_6 s a w hE hR H => ?_)
  cases s
  replace hE : Env (⟨14, []⟩ : Frm) a [(0, x0), (5, .pointer (some x5_3))] := hE
  replace H : (maps_Keys_map_int_api_Sector_int_api_Sector_1_l1 x0 x5_3 self1 ()).wp w.heap Q := H
  unfold maps_Keys_map_int_api_Sector_int_api_Sector_1_l1 at H
  refine w_seq (fun K hK_7 => ?_)
  refine t_region ?_
  refine t_ex (fun x6_8 => x6_8) rfl rfl hR (M.unbind H) (fun Q H => nx_run hE rfl H) (fun x6_8 a w ea hR H => ?_)
  have hE := Env.put_some hE rfl ea; clear ea
  obtain ⟨x7_9, qx7_9, H⟩ := H
  refine t_val (v := .bool x7_9) rfl rfl hE rfl (ex_run hE rfl qx7_9) (fun a hE => ?_)
  refine t_nil ?_
  refine hK_7 _ _ ?_
  refine w_seq (fun K hK_10 => ?_)
  refine w_cond x7_9 hE rfl (fun hb => ?_) (fun hb => ?_)
  · replace H := M.ite_t hb H
    refine w_skip ?_
    refine hK_10 _ _ ?_
    refine w_block ?_
    refine w_seq (fun K hK_11 => ?_)
    refine t_region ?_
    obtain ⟨x8_12, qx8_12, H⟩ := H
    refine t_val (v := .tuple #[x8_12.1, x8_12.2]) rfl rfl hE rfl (r_entry hE rfl qx8_12) (fun a hE => ?_)
    obtain ⟨x9_13, qx9_13, H⟩ := H
    refine t_val (v := .int .i64 x9_13) rfl rfl hE rfl (r_extract hE rfl (congrArg some qx9_13)) (fun a hE => ?_)
    refine t_val (v := .int .i64 x9_13) rfl rfl hE rfl (r_assign hE rfl) (fun a hE => ?_)
    refine t_nil ?_
    refine hK_11 _ _ ?_
    refine w_seq (fun K hK_14 => ?_)
    refine t_region ?_
    refine t_val (v := x0) rfl rfl hE rfl (r_move hE rfl) (fun a hE => ?_)
    refine t_val (v := .int .i64 x9_13) rfl rfl hE rfl (r_move hE rfl) (fun a hE => ?_)
    refine t_callV hE hR rfl rfl (M.unbind H) (fun x12_15 a w ea hR H => ?_)
    have hE := Env.put_some hE rfl ea; clear ea
    refine t_val (v := .bool (!x12_15)) rfl rfl hE rfl (r_un hE rfl u_not) (fun a hE => ?_)
    refine t_nil ?_
    refine hK_14 _ _ ?_
    refine w_cond (!x12_15) hE rfl (fun hb => ?_) (fun hb => ?_)
    · replace H := M.ite_t hb H
      refine w_ret ?_
      exact hret _ _ _ () _ hE hR (res_run hE rfl RV.nil) rfl H
    · replace H := M.ite_f hb H
      refine w_skip ?_
      exact hY_6 () _ _ (hE.cut (.cons rfl (.cons rfl Subs.nil))) hR H
  · replace H := M.ite_f hb H
    refine w_exit ?_
    refine Xu.same ?_
    exact hret _ _ _ () _ hE hR (res_run hE rfl RV.nil) rfl H

end Gx
namespace Gx
open Go
set_option linter.unusedVariables false
set_option maxRecDepth 100000
/-- maps.Keys[map[int]ramble/api.Sector,int,ramble/api.Sector] -/
def maps_Keys_map_int_api_Sector_int_api_Sector (x0 : Option Nat) : M (Value) := do
  let x1_2 ← mkB ty_map_int_api_Sector #[.map x0]
  M.pure (Value.func (.func fn_maps_Keys_map_int_api_Sector_int_api_Sector_1) #[] #[.pointer (some x1_2)])
theorem S_maps_Keys_map_int_api_Sector_int_api_Sector (x0 : Option Nat) : Sound Go.Proofs.Try.prog 56 #[.map x0] (fun (r : Value) => r) (maps_Keys_map_int_api_Sector_int_api_Sector x0) := by
  refine sound_of [(0, .map x0)] Go.Proofs.Try.func56 rfl rfl (Nat.le_of_ble_eq_true rfl) (args_of ⟨rfl, trivial⟩) (fun w0 w Q R a hret hE hR H => ?_)
  unfold maps_Keys_map_int_api_Sector_int_api_Sector at H
  refine w_seq (fun K hK_1 => ?_)
  refine t_region ?_
  obtain ⟨x1_2, qx1_2, H⟩ := H
  refine t_valh (v := .pointer (some x1_2)) rfl rfl hE rfl hR (r_box hE rfl qx1_2) (fun a w hE hR hh => ?_)
  replace H := M.at hh H; clear hh
  refine t_val (v := Value.nilFunc) rfl rfl hE rfl (r_assign hE rfl) (fun a hE => ?_)
  refine t_nil ?_
  refine hK_1 _ _ ?_
  refine w_seq (fun K hK_3 => ?_)
  refine t_region ?_
  refine t_val (v := (Value.func (.func fn_maps_Keys_map_int_api_Sector_int_api_Sector_1) #[] #[.pointer (some x1_2)])) rfl rfl hE rfl (r_makeFunc hE rfl) (fun a hE => ?_)
  refine t_val (v := (Value.func (.func fn_maps_Keys_map_int_api_Sector_int_api_Sector_1) #[] #[.pointer (some x1_2)])) rfl rfl hE rfl (r_assign hE rfl) (fun a hE => ?_)
  refine t_nil ?_
  refine hK_3 _ _ ?_
  refine w_ret ?_
  exact hret _ _ _ (Value.func (.func fn_maps_Keys_map_int_api_Sector_int_api_Sector_1) #[] #[.pointer (some x1_2)]) _ hE hR (res_run hE rfl (RV.tmp rfl RV.nil)) rfl H

/-- (*ramble/disk.Disk).Dirty -/
def disk_Disk_Dirty (x0 : Option Addr) : M (Sl) := do
  let x4_4 ← disk_Disk_none x0
  M.ite x4_4 (do
    M.pure Sl.nil
    ) (do
    let x6_7 ← nilP x0
    let x8_8 ← ldMp ((x6_7).add 2)
    let x9_9 ← maps_Keys_map_int_api_Sector_int_api_Sector x8_8
    let x10_10 ← slices_Sorted_int x9_9
    M.pure x10_10
    )
theorem S_disk_Disk_Dirty (x0 : Option Addr) : Sound Go.Proofs.Try.prog 24 #[.pointer x0] (fun (r : Sl) => (r : Sl).v) (disk_Disk_Dirty x0) := by
  refine sound_of [(0, .pointer x0)] Go.Proofs.Try.func24 rfl rfl (Nat.le_of_ble_eq_true rfl) (args_of ⟨rfl, trivial⟩) (fun w0 w Q R a hret hE hR H => ?_)
  unfold disk_Disk_Dirty at H
  refine w_seq (fun K hK_1 => ?_)
  refine t_region ?_
  refine t_val (v := (Sl.nil : Sl).v) rfl rfl hE rfl (r_assign hE rfl) (fun a hE => ?_)
  refine t_nil ?_
  refine hK_1 _ _ ?_
  refine w_seq (fun K hK_2 => ?_)
  refine w_seq (fun K hK_3 => ?_)
  refine t_region ?_
  refine t_val (v := .pointer x0) rfl rfl hE rfl (r_move hE rfl) (fun a hE => ?_)
  refine t_call hE hR cl_disk_Disk_none rfl (S_disk_Disk_none x0) (M.unbind H) (fun x4_4 a w ea hR H => ?_)
  have hE := Env.put_some hE rfl ea; clear ea
  refine t_nil ?_
  refine hK_3 _ _ ?_
  refine w_cond x4_4 hE rfl (fun hb => ?_) (fun hb => ?_)
  · replace H := M.ite_t hb H
    refine w_seq (fun K hK_5 => ?_)
    refine t_region ?_
    refine t_val (v := (Sl.nil : Sl).v) rfl rfl hE rfl (r_assign hE rfl) (fun a hE => ?_)
    refine t_nil ?_
    refine hK_5 _ _ ?_
    refine w_ret ?_
    exact hret _ _ _ Sl.nil _ hE hR (res_run hE rfl (RV.tmp rfl RV.nil)) rfl H
  · replace H := M.ite_f hb H
    refine w_skip ?_
    refine hK_2 _ _ ?_
    refine w_seq (fun K hK_6 => ?_)
    refine t_region ?_
    refine t_val (v := .pointer x0) rfl rfl hE rfl (r_move hE rfl) (fun a hE => ?_)
    obtain ⟨x6_7, qx6_7, H⟩ := H
    refine t_val (v := .pointer (some x6_7)) rfl rfl hE rfl (r_nilCheck hE (hx_eq rfl (congrArg Value.pointer qx6_7))) (fun a hE => ?_)
    refine t_val (v := .pointer (some ((x6_7).add 2))) rfl rfl hE rfl (r_fieldAddr hE rfl fd66_2) (fun a hE => ?_)
    obtain ⟨x8_8, qx8_8, H⟩ := H
    refine t_val (v := .map x8_8) rfl rfl hE rfl (r_load hE rfl sc64 qx8_8) (fun a hE => ?_)
    refine t_call hE hR cl_maps_Keys_map_int_api_Sector_int_api_Sector rfl (S_maps_Keys_map_int_api_Sector_int_api_Sector x8_8) (M.unbind H) (fun x9_9 a w ea hR H => ?_)
    have hE := Env.put_some hE rfl ea; clear ea
    refine t_call hE hR cl_slices_Sorted_int rfl (S_slices_Sorted_int x9_9) (M.unbind H) (fun x10_10 a w ea hR H => ?_)
    have hE := Env.put_some hE rfl ea; clear ea
    refine t_val (v := (x10_10 : Sl).v) rfl rfl hE rfl (r_assign hE rfl) (fun a hE => ?_)
    refine t_nil ?_
    refine hK_6 _ _ ?_
    refine w_ret ?_
    exact hret _ _ _ x10_10 _ hE hR (res_run hE rfl (RV.tmp rfl RV.nil)) rfl H

/-- (*ramble/disk.Disk).stay -/
theorem tb53_0 : tabAt Go.Proofs.Try.f53 0 [[], [0], [1], [2], [], [], [5], [6], [7], [], [8, 9], [3, 4, 0, 1, 2, 3, 4, 5, 6, 7, 8, 9, 10], [11, 10, 0, 1, 2, 3, 4, 5, 6, 7, 8, 9, 10]] [[], [0], [1], [2], [], [], [5], [6], [7], [], [8, 9], [3, 4], [10, 11]] [[], [0], [0, 1], [0, 1, 2], [], [], [5], [5, 6], [5, 6, 7], [], [5, 6, 7, 8, 9], [0, 1, 2, 3, 4, 5, 6, 7, 8, 9, 10], [0, 1, 2, 3, 4, 5, 6, 7, 8, 9, 10, 11]] = true := by kernel_rfl
def disk_Disk_stay (x0 : Option Addr) (x1 : Int) : M (Unit) := do
  let x5_2 ← nilP x0
  let x10_3 ← nilP x0
  let x7_4 ← ldL ((x5_2).add 0)
  let x12_5 ← ldMp ((x10_3).add 2)
  let x14_6 ← lkM (fun v : Array Value => .agg v) (.int .i64) (.int .i64 x1) (.agg (Array.replicate 128 (.int .u8 0) : Array Value)) x12_5
  let x15_7 ← ixL x7_4 x1 128
  M.need (x14_6.1.size = 128)
  stG x15_7 x14_6.1
  let x17_9 ← nilP x0
  let x19_10 ← ldL ((x17_9).add 1)
  let x21_11 ← ixL x19_10 x1 1
  stV x21_11 (.bool false)
  M.pure ()
theorem S_disk_Disk_stay (x0 : Option Addr) (x1 : Int) : Sound Go.Proofs.Try.prog 53 #[.pointer x0, .int .i64 x1] (fun (r : Unit) => .tuple #[]) (disk_Disk_stay x0 x1) := by
  refine sound_of [(0, .pointer x0), (1, .int .i64 x1)] Go.Proofs.Try.func53 rfl rfl (Nat.le_of_ble_eq_true rfl) (args_of ⟨rfl, rfl, trivial⟩) (fun w0 w Q R a hret hE hR H => ?_)
  unfold disk_Disk_stay at H
  refine w_seq (fun K hK_1 => ?_)
  obtain ⟨x5_2, qx5_2, H⟩ := H
  obtain ⟨x10_3, qx10_3, H⟩ := H
  obtain ⟨x7_4, qx7_4, H⟩ := H
  obtain ⟨x12_5, qx12_5, H⟩ := H
  obtain ⟨x14_6, qx14_6, H⟩ := H
  obtain ⟨x15_7, qx15_7, H⟩ := H
  have hT := tab_of tb53_0 rfl rfl
  refine d_start (fun w : World => (fun h : Heap => (hcell h ((x5_2).add 0) = some ((x7_4 : Sl).v)) ∧ (hcell h ((x10_3).add 2) = some (.map x12_5)) ∧ (∃ es res, mget h x12_5 = some es ∧ Instr.findNow (.int .i64) (.int .i64 x1) es.toList 0 = some res ∧ (fun v : Array Value => .agg v) x14_6.1 = (match res with | some p => p.2 | none => .agg (Array.replicate 128 (.int .u8 0) : Array Value)) ∧ x14_6.2 = res.isSome)) w.heap) [11, 12] #[false, false, false, false, false, false, false, false, false, false, false, false, false] mo hR rfl rfl (fun w' e => by rw [e]; exact ⟨qx7_4, qx12_5, qx14_6⟩) (fun w hh hR hs => ?_)
  replace H := M.at hh H; clear hh
  refine d_pureg (i := 0) (v := .pointer x0) #[true, false, false, false, false, false, false, false, false, false, false, false, false] rfl rfl hT (by kernel_rfl) hE rfl (wanted_none rfl) (fun w => r_move hE rfl) (fun a hE => ?_)
  refine d_pureg (i := 1) (v := .pointer (some x5_2)) #[true, true, false, false, false, false, false, false, false, false, false, false, false] rfl rfl hT (by kernel_rfl) hE rfl (wanted_none rfl) (fun w => r_nilCheck hE (hx_eq rfl (congrArg Value.pointer qx5_2))) (fun a hE => ?_)
  refine d_pureg (i := 2) (v := .pointer (some ((x5_2).add 0))) #[true, true, true, false, false, false, false, false, false, false, false, false, false] rfl rfl hT (by kernel_rfl) hE rfl (wanted_none rfl) (fun w => r_fieldAddr hE rfl fd66_0) (fun a hE => ?_)
  refine d_pureg (i := 4) (v := .int .i64 x1) #[true, true, true, false, true, false, false, false, false, false, false, false, false] rfl rfl hT (by kernel_rfl) hE rfl (wanted_none rfl) (fun w => r_move hE rfl) (fun a hE => ?_)
  refine d_pureg (i := 5) (v := .pointer x0) #[true, true, true, false, true, true, false, false, false, false, false, false, false] rfl rfl hT (by kernel_rfl) hE rfl (wanted_none rfl) (fun w => r_move hE rfl) (fun a hE => ?_)
  refine d_pureg (i := 6) (v := .pointer (some x10_3)) #[true, true, true, false, true, true, true, false, false, false, false, false, false] rfl rfl hT (by kernel_rfl) hE rfl (wanted_none rfl) (fun w => r_nilCheck hE (hx_eq rfl (congrArg Value.pointer qx10_3))) (fun a hE => ?_)
  refine d_pureg (i := 7) (v := .pointer (some ((x10_3).add 2))) #[true, true, true, false, true, true, true, true, false, false, false, false, false] rfl rfl hT (by kernel_rfl) hE rfl (wanted_none rfl) (fun w => r_fieldAddr hE rfl fd66_2) (fun a hE => ?_)
  refine d_pureg (i := 9) (v := .int .i64 x1) #[true, true, true, false, true, true, true, true, false, true, false, false, false] rfl rfl hT (by kernel_rfl) hE rfl (wanted_none rfl) (fun w => r_move hE rfl) (fun a hE => ?_)
  refine d_read (i := 3) (v := (x7_4 : Sl).v) #[true, true, true, true, true, true, true, true, false, true, false, false, false] rfl rfl hT (by kernel_rfl) hE rfl (wanted_none rfl) hs (fun w s => r_load hE rfl sc63 s.1) (fun a hE => ?_)
  refine d_read (i := 8) (v := .map x12_5) #[true, true, true, true, true, true, true, true, true, true, false, false, false] rfl rfl hT (by kernel_rfl) hE rfl (wanted_none rfl) hs (fun w s => r_load hE rfl sc64 s.2.1) (fun a hE => ?_)
  refine d_read (i := 10) (v := .agg x14_6.1) #[true, true, true, true, true, true, true, true, true, true, true, false, false] rfl rfl hT (by kernel_rfl) hE rfl (wanted_none rfl) hs (fun w s => r_lookup1 (dec := (fun v : Array Value => .agg v)) hE rfl rfl un64 un3 rfl zr47 s.2.2) (fun a hE => ?_)
  refine d_pureg (i := 11) (v := .pointer (some x15_7)) #[true, true, true, true, true, true, true, true, true, true, true, true, false] rfl rfl hT (by kernel_rfl) hE rfl (wanted_none rfl) (fun w => r_indexAddrL hE rfl rfl un63 sz47 qx15_7) (fun a hE => ?_)
  obtain ⟨qz, H⟩ := H
  obtain ⟨u_8, qu_8, H⟩ := H
  refine d_stlh (i := 12) #[true, true, true, true, true, true, true, true, true, true, true, true, true] rfl rfl hT (by kernel_rfl) rfl hE hR (wanted_none rfl) (r_storeG hE rfl rfl sz47 qz qu_8)  (fun a w hE hR hh => ?_)
  replace H := M.at hh H; clear hh
  refine d_done hT (by kernel_rfl) ?_
  refine hK_1 _ _ ?_
  refine t_region ?_
  refine t_val (v := .pointer x0) rfl rfl hE rfl (r_move hE rfl) (fun a hE => ?_)
  obtain ⟨x17_9, qx17_9, H⟩ := H
  refine t_val (v := .pointer (some x17_9)) rfl rfl hE rfl (r_nilCheck hE (hx_eq rfl (congrArg Value.pointer qx17_9))) (fun a hE => ?_)
  refine t_val (v := .pointer (some ((x17_9).add 1))) rfl rfl hE rfl (r_fieldAddr hE rfl fd66_1) (fun a hE => ?_)
  obtain ⟨x19_10, qx19_10, H⟩ := H
  refine t_val (v := (x19_10 : Sl).v) rfl rfl hE rfl (r_load hE rfl sc45 qx19_10) (fun a hE => ?_)
  refine t_val (v := .int .i64 x1) rfl rfl hE rfl (r_move hE rfl) (fun a hE => ?_)
  obtain ⟨x21_11, qx21_11, H⟩ := H
  refine t_val (v := .pointer (some x21_11)) rfl rfl hE rfl (r_indexAddrL hE rfl rfl un45 sz4 qx21_11) (fun a hE => ?_)
  obtain ⟨u_12, qu_12, H⟩ := H
  refine t_sth rfl rfl hE hR (r_store hE rfl rfl sz4 qu_12) (fun a w hE hR hh => ?_)
  replace H := M.at hh H; clear hh
  refine t_nil ?_
  exact hret _ _ _ () _ hE hR (res_run hE rfl RV.nil) rfl H

/-- (*ramble/disk.Disk).decide -/
def disk_Disk_decide_j1 (self1 : (Sl × Int) → M (Unit)) (c12_21 : Int) (x6_15 : Sl) : M (Unit) := do
  self1 (x6_15, IntKind.wrap .i64 (c12_21 + 1))
def disk_Disk_decide_j2 (c0_34 : Option Addr) : M (Unit) := do
  let x55_35 ← nilP c0_34
  let x57_36 ← ldMp ((x55_35).add 2)
  let u_37 ← clM x57_36
  M.pure ()
theorem tb57_9 : tabAt Go.Proofs.Try.f57 9 [[], [0], [1], [2], [], [], [4, 5], [6], [3, 7, 0, 1, 2, 3, 4, 5, 6, 7], [8, 0, 1, 2, 3, 4, 5, 6, 7]] [[], [0], [1], [2], [], [], [4, 5], [6], [3, 7], [8]] [[], [0], [0, 1], [0, 1, 2], [], [], [4, 5], [4, 5, 6], [0, 1, 2, 3, 4, 5, 6, 7], [0, 1, 2, 3, 4, 5, 6, 7, 8]] = true := by kernel_rfl
def disk_Disk_decide_l1 (c0_7 : Option Addr) (c1_8 : Int) (c2_9 : Sl) (c10_10 : Sl) (c11_11 : Int) (self1 : (Sl × Int) → M (Unit)) : (Sl × Int) → M (Unit) := fun s => match s with
  | (x6_5, x12_6) => do
    M.ite (decide (x12_6 < c11_11)) (do
      let x15_23 ← ixL c10_10 x12_6 1
      let x16_24 ← ldI .i64 x15_23
      let x28_26 ← M.ite (decide ((c2_9.len : Int) > 0)) (do
        let x25_27 ← pRem x12_6 (c2_9.len : Int)
        let x26_28 ← ixL c2_9 x25_27 1
        let x27_29 ← ldB x26_28
        M.pure x27_29
        ) (do
        M.pure false
        )
      M.ite x28_26 (do
        let x31_31 ← disk_Disk_stay c0_7 x16_24
        let x34_32 ← bdL ty_int 1 #[.int .i64 x16_24]
        let x35_33 ← apL ty_int 1 8 (#[.int .i64 0] : Array Value) x6_5 x34_32
        disk_Disk_decide_j1 self1 x12_6 x35_33
        ) (do
        disk_Disk_decide_j1 self1 x12_6 x6_5
        )
      ) (do
      let x44_39 ← M.ite (decide (c1_8 ≥ 0)) (do
        M.pure (decide (c1_8 < (x6_5.len : Int)))
        ) (do
        M.pure false
        )
      M.ite x44_39 (do
        let x46_40 ← nilP c0_7
        let x51_41 ← ixL x6_5 c1_8 1
        let x48_42 ← ldL ((x46_40).add 1)
        let x52_43 ← ldI .i64 x51_41
        let x53_44 ← ixL x48_42 x52_43 1
        stV x53_44 (.bool true)
        disk_Disk_decide_j2 c0_7
        ) (do
        disk_Disk_decide_j2 c0_7
        )
      )
def disk_Disk_decide (x0 : Option Addr) (x1 : Int) (x2 : Sl) : M (Unit) := do
  let x10_4 ← disk_Disk_Dirty x0
  M.loop (disk_Disk_decide_l1 x0 x1 x2 x10_4 (x10_4.len : Int)) (Sl.nil, 0)
theorem S_disk_Disk_decide (x0 : Option Addr) (x1 : Int) (x2 : Sl) : Sound Go.Proofs.Try.prog 57 #[.pointer x0, .int .i64 x1, (x2 : Sl).v] (fun (r : Unit) => .tuple #[]) (disk_Disk_decide x0 x1 x2) := by
  refine sound_of [(0, .pointer x0), (1, .int .i64 x1), (2, (x2 : Sl).v)] Go.Proofs.Try.func57 rfl rfl (Nat.le_of_ble_eq_true rfl) (args_of ⟨rfl, rfl, rfl, trivial⟩) (fun w0 w Q R a hret hE hR H => ?_)
  unfold disk_Disk_decide at H
  refine w_seq (fun K hK_1 => ?_)
  refine t_region ?_
  refine t_val (v := (Sl.nil : Sl).v) rfl rfl hE rfl (r_assign hE rfl) (fun a hE => ?_)
  refine t_nil ?_
  refine hK_1 _ _ ?_
  refine w_seq (fun K hK_2 => ?_)
  refine w_seq (fun K hK_3 => ?_)
  refine t_region ?_
  refine t_val (v := .pointer x0) rfl rfl hE rfl (r_move hE rfl) (fun a hE => ?_)
  refine t_call hE hR cl_disk_Disk_Dirty rfl (S_disk_Disk_Dirty x0) (M.unbind H) (fun x10_4 a w ea hR H => ?_)
  have hE := Env.put_some hE rfl ea; clear ea
  refine t_val (v := .int .i64 (x10_4.len : Int)) rfl rfl hE rfl (r_len hE rfl 3 un54) (fun a hE => ?_)
  refine t_val (v := .int .i64 0) rfl rfl hE rfl (r_move hE rfl) (fun a hE => ?_)
  refine t_nil ?_
  refine hK_3 _ _ ?_
  refine w_block ?_
  refine l_loop (fun (s : Sl × Int) => (⟨58, []⟩ : Frm)) (fun (s : Sl × Int) => [(0, .pointer x0), (1, .int .i64 x1), (2, (x2 : Sl).v), (6, (s.1 : Sl).v), (10, (x10_4 : Sl).v), (11, .int .i64 (x10_4.len : Int)), (12, .int .i64 s.2)]) H (hE.cut (.cons rfl (.cons rfl (.cons rfl (.cons rfl (.cons rfl (.cons rfl (.cons rfl Subs.nil)))))))) hR (fun Y self1 hY_12 s a w hE hR H => ?_)
  rcases s with ⟨x6_5, x12_6⟩
  replace hE : Env (⟨58, []⟩ : Frm) a [(0, .pointer x0), (1, .int .i64 x1), (2, (x2 : Sl).v), (6, (x6_5 : Sl).v), (10, (x10_4 : Sl).v), (11, .int .i64 (x10_4.len : Int)), (12, .int .i64 x12_6)] := hE
  replace H : (disk_Disk_decide_l1 x0 x1 x2 x10_4 (x10_4.len : Int) self1 (x6_5, x12_6)).wp w.heap Q := H
  unfold disk_Disk_decide_l1 at H
  refine w_seq (fun K hK_13 => ?_)
  refine t_region ?_
  refine t_val (v := .bool (decide (x12_6 < (x10_4.len : Int)))) rfl rfl hE rfl (r_bin hE rfl rfl g_int b_lss) (fun a hE => ?_)
  refine t_nil ?_
  refine hK_13 _ _ ?_
  refine w_seq (fun K hK_14 => ?_)
  refine w_cond (decide (x12_6 < (x10_4.len : Int))) hE rfl (fun hb => ?_) (fun hb => ?_)
  · replace H := M.ite_t hb H
    refine w_skip ?_
    refine hK_14 _ _ ?_
    refine w_seq_join (fun a w => ∃ (x6_15 : Sl), Env (⟨58, []⟩ : Frm) a [(0, .pointer x0), (1, .int .i64 x1), (2, (x2 : Sl).v), (10, (x10_4 : Sl).v), (11, .int .i64 (x10_4.len : Int)), (12, .int .i64 x12_6), (6, (x6_15 : Sl).v)] ∧ Rest w0 w ∧ (disk_Disk_decide_j1 self1 x12_6 x6_15).wp w.heap Q) ?_ ?_
    · rintro a w ⟨x6_15, hE, hR, H⟩
      unfold disk_Disk_decide_j1 at H
      refine t_region ?_
      refine t_val (v := .int .i64 (IntKind.wrap .i64 (x12_6 + 1))) rfl rfl hE rfl (r_bin hE rfl rfl g_int b_add) (fun a hE => ?_)
      refine t_val (v := .int .i64 (IntKind.wrap .i64 (x12_6 + 1))) rfl rfl hE rfl (r_move hE rfl) (fun a hE => ?_)
      refine t_nil ?_
      exact hY_12 (x6_15, IntKind.wrap .i64 (x12_6 + 1)) _ _ (hE.cut (.cons rfl (.cons rfl (.cons rfl (.cons rfl (.cons rfl (.cons rfl (.cons rfl Subs.nil)))))))) hR H
    · skip
      refine w_block ?_
      refine w_seq (fun K hK_22 => ?_)
      refine t_region ?_
      refine t_val (v := .int .i64 x12_6) rfl rfl hE rfl (r_move hE rfl) (fun a hE => ?_)
      obtain ⟨x15_23, qx15_23, H⟩ := H
      refine t_val (v := .pointer (some x15_23)) rfl rfl hE rfl (r_indexAddrL hE rfl rfl un54 sz3 qx15_23) (fun a hE => ?_)
      obtain ⟨x16_24, qx16_24, H⟩ := H
      refine t_val (v := .int .i64 x16_24) rfl rfl hE rfl (r_load hE rfl sc3 qx16_24) (fun a hE => ?_)
      refine t_val (v := .int .i64 x12_6) rfl rfl hE rfl (r_assign hE rfl) (fun a hE => ?_)
      refine t_val (v := .int .i64 x16_24) rfl rfl hE rfl (r_assign hE rfl) (fun a hE => ?_)
      refine t_nil ?_
      refine hK_22 _ _ ?_
      refine w_seq (fun K hK_25 => ?_)
      refine t_region ?_
      refine t_val (v := (x2 : Sl).v) rfl rfl hE rfl (r_move hE rfl) (fun a hE => ?_)
      refine t_val (v := .int .i64 (x2.len : Int)) rfl rfl hE rfl (r_len hE rfl 4 un45) (fun a hE => ?_)
      refine t_val (v := .bool (decide ((x2.len : Int) > 0))) rfl rfl hE rfl (r_bin hE rfl rfl g_int b_gtr) (fun a hE => ?_)
      refine t_val (v := .bool (decide ((x2.len : Int) > 0))) rfl rfl hE rfl (r_move hE rfl) (fun a hE => ?_)
      refine t_grp (n := (⟨58, []⟩ : Frm)) (w0 := w0) 8 (fun x28_26 : Bool => [(0, .pointer x0), (1, .int .i64 x1), (2, (x2 : Sl).v), (10, (x10_4 : Sl).v), (11, .int .i64 (x10_4.len : Int)), (6, (x6_5 : Sl).v), (12, .int .i64 x12_6), (8, .int .i64 x16_24), (28, .bool x28_26)]) (M.unbind H) (fun Kr hKr H => ?_) ?_
      · rcases bool_em (decide ((x2.len : Int) > 0)) with hb | hb
        · replace H := M.ite_t hb H
          have hE := hE.reb 20 (decide ((x2.len : Int) > 0)) true hb rfl
          refine t_on rfl hE rfl rfl rfl ?_
          refine t_val (v := (x2 : Sl).v) rfl rfl hE rfl (r_move hE rfl) (fun a hE => ?_)
          refine t_on rfl hE rfl rfl rfl ?_
          refine t_val (v := .int .i64 x12_6) rfl rfl hE rfl (r_move hE rfl) (fun a hE => ?_)
          refine t_on rfl hE rfl rfl rfl ?_
          refine t_val (v := (x2 : Sl).v) rfl rfl hE rfl (r_move hE rfl) (fun a hE => ?_)
          refine t_on rfl hE rfl rfl rfl ?_
          refine t_val (v := .int .i64 (x2.len : Int)) rfl rfl hE rfl (r_len hE rfl 4 un45) (fun a hE => ?_)
          refine t_on rfl hE rfl rfl rfl ?_
          obtain ⟨x25_27, qx25_27, H⟩ := H
          refine t_val (v := .int .i64 x25_27) rfl rfl hE rfl (r_bin hE rfl rfl g_int (b_rem qx25_27)) (fun a hE => ?_)
          refine t_on rfl hE rfl rfl rfl ?_
          obtain ⟨x26_28, qx26_28, H⟩ := H
          refine t_val (v := .pointer (some x26_28)) rfl rfl hE rfl (r_indexAddrL hE rfl rfl un45 sz4 qx26_28) (fun a hE => ?_)
          refine t_on rfl hE rfl rfl rfl ?_
          obtain ⟨x27_29, qx27_29, H⟩ := H
          refine t_val (v := .bool x27_29) rfl rfl hE rfl (r_load hE rfl sc4 qx27_29) (fun a hE => ?_)
          refine t_val rfl rfl hE rfl (r_pick_t hE rfl rfl) (fun a hE => ?_)
          refine t_nil ?_
          exact hKr _ _ _ (hE.cut (.cons rfl (.cons rfl (.cons rfl (.cons rfl (.cons rfl (.cons rfl (.cons rfl (.cons rfl (.cons rfl Subs.nil)))))))))) hR H
        · replace H := M.ite_f hb H
          have hE := hE.reb 20 (decide ((x2.len : Int) > 0)) false hb rfl
          refine t_off rfl hE rfl rfl rfl (fun a ea => ?_)
          have hE := Env.put_some hE rfl ea; clear ea
          refine t_off rfl hE rfl rfl rfl (fun a ea => ?_)
          have hE := Env.put_some hE rfl ea; clear ea
          refine t_off rfl hE rfl rfl rfl (fun a ea => ?_)
          have hE := Env.put_some hE rfl ea; clear ea
          refine t_off rfl hE rfl rfl rfl (fun a ea => ?_)
          have hE := Env.put_some hE rfl ea; clear ea
          refine t_off rfl hE rfl rfl rfl (fun a ea => ?_)
          have hE := Env.put_some hE rfl ea; clear ea
          refine t_off rfl hE rfl rfl rfl (fun a ea => ?_)
          have hE := Env.put_some hE rfl ea; clear ea
          refine t_off rfl hE rfl rfl rfl (fun a ea => ?_)
          have hE := Env.put_some hE rfl ea; clear ea
          refine t_val rfl rfl hE rfl (r_pick_f hE rfl rfl) (fun a hE => ?_)
          refine t_nil ?_
          exact hKr _ _ _ (hE.cut (.cons rfl (.cons rfl (.cons rfl (.cons rfl (.cons rfl (.cons rfl (.cons rfl (.cons rfl (.cons rfl Subs.nil)))))))))) hR H
      · intro x28_26 a w hE hR H
        refine t_nil ?_
        refine hK_25 _ _ ?_
        refine w_cond x28_26 hE rfl (fun hb => ?_) (fun hb => ?_)
        · replace H := M.ite_t hb H
          refine w_seq (fun K hK_30 => ?_)
          refine t_region ?_
          refine t_val (v := .pointer x0) rfl rfl hE rfl (r_move hE rfl) (fun a hE => ?_)
          refine t_val (v := .int .i64 x16_24) rfl rfl hE rfl (r_move hE rfl) (fun a hE => ?_)
          refine t_call hE hR cl_disk_Disk_stay rfl (S_disk_Disk_stay x0 x16_24) (M.unbind H) (fun x31_31 a w ea hR H => ?_)
          have hE := Env.put_some hE rfl ea; clear ea
          refine t_nil ?_
          refine hK_30 _ _ ?_
          refine t_region ?_
          refine t_val (v := (x6_5 : Sl).v) rfl rfl hE rfl (r_move hE rfl) (fun a hE => ?_)
          refine t_val (v := .int .i64 x16_24) rfl rfl hE rfl (r_move hE rfl) (fun a hE => ?_)
          obtain ⟨x34_32, qx34_32, H⟩ := H
          refine t_valh (v := (x34_32 : Sl).v) rfl rfl hE rfl hR (r_buildL (cells := #[.int .i64 x16_24]) hE rfl un54 sz3 zr3 rfl rfl qx34_32) (fun a w hE hR hh => ?_)
          replace H := M.at hh H; clear hh
          refine t_ex (fun x35_33 => (x35_33 : Sl).v) rfl rfl hR (M.unbind H) (fun Q H => ap_run hE rfl rfl ap54 H) (fun x35_33 a w ea hR H => ?_)
          have hE := Env.put_some hE rfl ea; clear ea
          refine t_val (v := (x35_33 : Sl).v) rfl rfl hE rfl (r_assign hE rfl) (fun a hE => ?_)
          refine t_nil ?_
          exact ⟨x35_33, hE.cut (.cons rfl (.cons rfl (.cons rfl (.cons rfl (.cons rfl (.cons rfl (.cons rfl Subs.nil))))))), hR, H⟩
        · replace H := M.ite_f hb H
          refine w_skip ?_
          exact ⟨x6_5, hE.cut (.cons rfl (.cons rfl (.cons rfl (.cons rfl (.cons rfl (.cons rfl (.cons rfl Subs.nil))))))), hR, H⟩
  · replace H := M.ite_f hb H
    refine w_exit ?_
    refine Xu.same ?_
    refine hK_2 _ _ ?_
    refine w_seq_join (fun a w => Env (⟨58, []⟩ : Frm) a [(0, .pointer x0)] ∧ Rest w0 w ∧ (disk_Disk_decide_j2 x0).wp w.heap Q) ?_ ?_
    · rintro a w ⟨hE, hR, H⟩
      unfold disk_Disk_decide_j2 at H
      refine t_region ?_
      refine t_val (v := .pointer x0) rfl rfl hE rfl (r_move hE rfl) (fun a hE => ?_)
      obtain ⟨x55_35, qx55_35, H⟩ := H
      refine t_val (v := .pointer (some x55_35)) rfl rfl hE rfl (r_nilCheck hE (hx_eq rfl (congrArg Value.pointer qx55_35))) (fun a hE => ?_)
      refine t_val (v := .pointer (some ((x55_35).add 2))) rfl rfl hE rfl (r_fieldAddr hE rfl fd66_2) (fun a hE => ?_)
      obtain ⟨x57_36, qx57_36, H⟩ := H
      refine t_val (v := .map x57_36) rfl rfl hE rfl (r_load hE rfl sc64 qx57_36) (fun a hE => ?_)
      obtain ⟨u_37, qu_37, H⟩ := H
      refine t_valnh (v := .tuple #[]) rfl rfl hE hR (r_clearM hE rfl un64 qu_37) (fun a w hE hR hh => ?_)
      replace H := M.at hh H; clear hh
      refine t_nil ?_
      exact hret _ _ _ () _ hE hR (res_run hE rfl RV.nil) rfl H
    · skip
      refine w_seq (fun K hK_38 => ?_)
      refine t_region ?_
      refine t_val (v := .int .i64 x1) rfl rfl hE rfl (r_move hE rfl) (fun a hE => ?_)
      refine t_val (v := .bool (decide (x1 ≥ 0))) rfl rfl hE rfl (r_bin hE rfl rfl g_int b_geq) (fun a hE => ?_)
      refine t_val (v := .bool (decide (x1 ≥ 0))) rfl rfl hE rfl (r_move hE rfl) (fun a hE => ?_)
      refine t_grp (n := (⟨58, []⟩ : Frm)) (w0 := w0) 5 (fun x44_39 : Bool => [(0, .pointer x0), (1, .int .i64 x1), (6, (x6_5 : Sl).v), (44, .bool x44_39)]) (M.unbind H) (fun Kr hKr H => ?_) ?_
      · rcases bool_em (decide (x1 ≥ 0)) with hb | hb
        · replace H := M.ite_t hb H
          have hE := hE.reb 39 (decide (x1 ≥ 0)) true hb rfl
          refine t_on rfl hE rfl rfl rfl ?_
          refine t_val (v := .int .i64 x1) rfl rfl hE rfl (r_move hE rfl) (fun a hE => ?_)
          refine t_on rfl hE rfl rfl rfl ?_
          refine t_val (v := (x6_5 : Sl).v) rfl rfl hE rfl (r_move hE rfl) (fun a hE => ?_)
          refine t_on rfl hE rfl rfl rfl ?_
          refine t_val (v := .int .i64 (x6_5.len : Int)) rfl rfl hE rfl (r_len hE rfl 3 un54) (fun a hE => ?_)
          refine t_on rfl hE rfl rfl rfl ?_
          refine t_val (v := .bool (decide (x1 < (x6_5.len : Int)))) rfl rfl hE rfl (r_bin hE rfl rfl g_int b_lss) (fun a hE => ?_)
          refine t_val rfl rfl hE rfl (r_pick_t hE rfl rfl) (fun a hE => ?_)
          refine t_nil ?_
          exact hKr _ _ _ (hE.cut (.cons rfl (.cons rfl (.cons rfl (.cons rfl Subs.nil))))) hR H
        · replace H := M.ite_f hb H
          have hE := hE.reb 39 (decide (x1 ≥ 0)) false hb rfl
          refine t_off rfl hE rfl rfl rfl (fun a ea => ?_)
          have hE := Env.put_some hE rfl ea; clear ea
          refine t_off rfl hE rfl rfl rfl (fun a ea => ?_)
          have hE := Env.put_some hE rfl ea; clear ea
          refine t_off rfl hE rfl rfl rfl (fun a ea => ?_)
          have hE := Env.put_some hE rfl ea; clear ea
          refine t_off rfl hE rfl rfl rfl (fun a ea => ?_)
          have hE := Env.put_some hE rfl ea; clear ea
          refine t_val rfl rfl hE rfl (r_pick_f hE rfl rfl) (fun a hE => ?_)
          refine t_nil ?_
          exact hKr _ _ _ (hE.cut (.cons rfl (.cons rfl (.cons rfl (.cons rfl Subs.nil))))) hR H
      · intro x44_39 a w hE hR H
        refine t_nil ?_
        refine hK_38 _ _ ?_
        refine w_cond x44_39 hE rfl (fun hb => ?_) (fun hb => ?_)
        · replace H := M.ite_t hb H
          obtain ⟨x46_40, qx46_40, H⟩ := H
          obtain ⟨x51_41, qx51_41, H⟩ := H
          obtain ⟨x48_42, qx48_42, H⟩ := H
          obtain ⟨x52_43, qx52_43, H⟩ := H
          obtain ⟨x53_44, qx53_44, H⟩ := H
          have hT := tab_of tb57_9 rfl rfl
          refine d_start (fun w : World => (fun h : Heap => (hcell h ((x46_40).add 1) = some ((x48_42 : Sl).v)) ∧ (hcell h x51_41 = some (.int .i64 x52_43))) w.heap) [8, 9] #[false, false, false, false, false, false, false, false, false, false] mo hR rfl rfl (fun w' e => by rw [e]; exact ⟨qx48_42, qx52_43⟩) (fun w hh hR hs => ?_)
          replace H := M.at hh H; clear hh
          refine d_pureg (i := 0) (v := .pointer x0) #[true, false, false, false, false, false, false, false, false, false] rfl rfl hT (by kernel_rfl) hE rfl (wanted_none rfl) (fun w => r_move hE rfl) (fun a hE => ?_)
          refine d_pureg (i := 1) (v := .pointer (some x46_40)) #[true, true, false, false, false, false, false, false, false, false] rfl rfl hT (by kernel_rfl) hE rfl (wanted_none rfl) (fun w => r_nilCheck hE (hx_eq rfl (congrArg Value.pointer qx46_40))) (fun a hE => ?_)
          refine d_pureg (i := 2) (v := .pointer (some ((x46_40).add 1))) #[true, true, true, false, false, false, false, false, false, false] rfl rfl hT (by kernel_rfl) hE rfl (wanted_none rfl) (fun w => r_fieldAddr hE rfl fd66_1) (fun a hE => ?_)
          refine d_pureg (i := 4) (v := (x6_5 : Sl).v) #[true, true, true, false, true, false, false, false, false, false] rfl rfl hT (by kernel_rfl) hE rfl (wanted_none rfl) (fun w => r_move hE rfl) (fun a hE => ?_)
          refine d_pureg (i := 5) (v := .int .i64 x1) #[true, true, true, false, true, true, false, false, false, false] rfl rfl hT (by kernel_rfl) hE rfl (wanted_none rfl) (fun w => r_move hE rfl) (fun a hE => ?_)
          refine d_pureg (i := 6) (v := .pointer (some x51_41)) #[true, true, true, false, true, true, true, false, false, false] rfl rfl hT (by kernel_rfl) hE rfl (wanted_none rfl) (fun w => r_indexAddrL hE rfl rfl un54 sz3 qx51_41) (fun a hE => ?_)
          refine d_read (i := 3) (v := (x48_42 : Sl).v) #[true, true, true, true, true, true, true, false, false, false] rfl rfl hT (by kernel_rfl) hE rfl (wanted_none rfl) hs (fun w s => r_load hE rfl sc45 s.1) (fun a hE => ?_)
          refine d_read (i := 7) (v := .int .i64 x52_43) #[true, true, true, true, true, true, true, true, false, false] rfl rfl hT (by kernel_rfl) hE rfl (wanted_none rfl) hs (fun w s => r_load hE rfl sc3 s.2) (fun a hE => ?_)
          refine d_pureg (i := 8) (v := .pointer (some x53_44)) #[true, true, true, true, true, true, true, true, true, false] rfl rfl hT (by kernel_rfl) hE rfl (wanted_none rfl) (fun w => r_indexAddrL hE rfl rfl un45 sz4 qx53_44) (fun a hE => ?_)
          obtain ⟨u_45, qu_45, H⟩ := H
          refine d_stlh (i := 9) #[true, true, true, true, true, true, true, true, true, true] rfl rfl hT (by kernel_rfl) rfl hE hR (wanted_none rfl) (r_store hE rfl rfl sz4 qu_45)  (fun a w hE hR hh => ?_)
          replace H := M.at hh H; clear hh
          refine d_done hT (by kernel_rfl) ?_
          exact ⟨hE.cut (.cons rfl Subs.nil), hR, H⟩
        · replace H := M.ite_f hb H
          refine w_skip ?_
          exact ⟨hE.cut (.cons rfl Subs.nil), hR, H⟩

/-- (*ramble/disk.Disk).Crash -/
def disk_Disk_Crash (x0 : Option Addr) (x1 : Int) (x2 : Sl) : M (Int) := do
  let x9_4 ← disk_Disk_can x0
  M.ite (x9_4 != 0) (do
    M.pure x9_4
    ) (do
    let x15_8 ← nilP x0
    stV ((x15_8).add 3) (.bool true)
    let x17_10 ← nilP x0
    stV ((x17_10).add 4) (.int .i64 0)
    let x22_13 ← disk_Disk_decide x0 x1 x2
    M.pure 0
    )
theorem S_disk_Disk_Crash (x0 : Option Addr) (x1 : Int) (x2 : Sl) : Sound Go.Proofs.Try.prog 25 #[.pointer x0, .int .i64 x1, (x2 : Sl).v] (fun (r : Int) => .int .i64 r) (disk_Disk_Crash x0 x1 x2) := by
  refine sound_of [(0, .pointer x0), (1, .int .i64 x1), (2, (x2 : Sl).v)] Go.Proofs.Try.func25 rfl rfl (Nat.le_of_ble_eq_true rfl) (args_of ⟨rfl, rfl, rfl, trivial⟩) (fun w0 w Q R a hret hE hR H => ?_)
  unfold disk_Disk_Crash at H
  refine w_seq (fun K hK_1 => ?_)
  refine t_region ?_
  refine t_val (v := .int .i64 0) rfl rfl hE rfl (r_assign hE rfl) (fun a hE => ?_)
  refine t_nil ?_
  refine hK_1 _ _ ?_
  refine w_seq (fun K hK_2 => ?_)
  refine w_seq (fun K hK_3 => ?_)
  refine t_region ?_
  refine t_val (v := .pointer x0) rfl rfl hE rfl (r_move hE rfl) (fun a hE => ?_)
  refine t_call hE hR cl_disk_Disk_can rfl (S_disk_Disk_can x0) (M.unbind H) (fun x9_4 a w ea hR H => ?_)
  have hE := Env.put_some hE rfl ea; clear ea
  refine t_val (v := .int .i64 x9_4) rfl rfl hE rfl (r_assign hE rfl) (fun a hE => ?_)
  refine t_nil ?_
  refine hK_3 _ _ ?_
  refine w_seq (fun K hK_5 => ?_)
  refine t_region ?_
  refine t_val (v := .int .i64 x9_4) rfl rfl hE rfl (r_move hE rfl) (fun a hE => ?_)
  refine t_val (v := .bool (x9_4 != 0)) rfl rfl hE rfl (r_bin hE rfl rfl g_int b_neq) (fun a hE => ?_)
  refine t_nil ?_
  refine hK_5 _ _ ?_
  refine w_cond (x9_4 != 0) hE rfl (fun hb => ?_) (fun hb => ?_)
  · replace H := M.ite_t hb H
    refine w_seq (fun K hK_6 => ?_)
    refine t_region ?_
    refine t_val (v := .int .i64 x9_4) rfl rfl hE rfl (r_move hE rfl) (fun a hE => ?_)
    refine t_val (v := .int .i64 x9_4) rfl rfl hE rfl (r_assign hE rfl) (fun a hE => ?_)
    refine t_nil ?_
    refine hK_6 _ _ ?_
    refine w_ret ?_
    exact hret _ _ _ x9_4 _ hE hR (res_run hE rfl (RV.tmp rfl RV.nil)) rfl H
  · replace H := M.ite_f hb H
    refine w_skip ?_
    refine hK_2 _ _ ?_
    refine w_seq (fun K hK_7 => ?_)
    refine t_region ?_
    refine t_val (v := .pointer x0) rfl rfl hE rfl (r_move hE rfl) (fun a hE => ?_)
    refine t_val (v := .pointer x0) rfl rfl hE rfl (r_move hE rfl) (fun a hE => ?_)
    obtain ⟨x15_8, qx15_8, H⟩ := H
    refine t_val (v := .pointer (some x15_8)) rfl rfl hE rfl (r_nilCheck hE (hx_eq rfl (congrArg Value.pointer qx15_8))) (fun a hE => ?_)
    refine t_val (v := .pointer (some ((x15_8).add 3))) rfl rfl hE rfl (r_fieldAddr hE rfl fd66_3) (fun a hE => ?_)
    obtain ⟨u_9, qu_9, H⟩ := H
    refine t_sth rfl rfl hE hR (r_store hE rfl rfl sz4 qu_9) (fun a w hE hR hh => ?_)
    replace H := M.at hh H; clear hh
    obtain ⟨x17_10, qx17_10, H⟩ := H
    refine t_val (v := .pointer (some x17_10)) rfl rfl hE rfl (r_nilCheck hE (hx_eq rfl (congrArg Value.pointer qx17_10))) (fun a hE => ?_)
    refine t_val (v := .pointer (some ((x17_10).add 4))) rfl rfl hE rfl (r_fieldAddr hE rfl fd66_4) (fun a hE => ?_)
    obtain ⟨u_11, qu_11, H⟩ := H
    refine t_sth rfl rfl hE hR (r_store hE rfl rfl sz3 qu_11) (fun a w hE hR hh => ?_)
    replace H := M.at hh H; clear hh
    refine t_nil ?_
    refine hK_7 _ _ ?_
    refine w_seq (fun K hK_12 => ?_)
    refine t_region ?_
    refine t_val (v := .pointer x0) rfl rfl hE rfl (r_move hE rfl) (fun a hE => ?_)
    refine t_val (v := .int .i64 x1) rfl rfl hE rfl (r_move hE rfl) (fun a hE => ?_)
    refine t_val (v := (x2 : Sl).v) rfl rfl hE rfl (r_move hE rfl) (fun a hE => ?_)
    refine t_call hE hR cl_disk_Disk_decide rfl (S_disk_Disk_decide x0 x1 x2) (M.unbind H) (fun x22_13 a w ea hR H => ?_)
    have hE := Env.put_some hE rfl ea; clear ea
    refine t_nil ?_
    refine hK_12 _ _ ?_
    refine w_seq (fun K hK_14 => ?_)
    refine t_region ?_
    refine t_val (v := .int .i64 0) rfl rfl hE rfl (r_assign hE rfl) (fun a hE => ?_)
    refine t_nil ?_
    refine hK_14 _ _ ?_
    refine w_ret ?_
    exact hret _ _ _ 0 _ hE hR (res_run hE rfl (RV.tmp rfl RV.nil)) rfl H

/-- (*ramble/disk.Disk).Start -/
def disk_Disk_Start (x0 : Option Addr) (x1 : Int) (x2 : Sl) : M (Int) := do
  let x9_4 ← disk_Disk_none x0
  M.ite x9_4 (do
    M.pure 2
    ) (do
    let x12_7 ← nilP x0
    let x14_8 ← ldB ((x12_7).add 3)
    M.ite (!x14_8) (do
      M.pure 1
      ) (do
      let x17_11 ← nilP x0
      stV ((x17_11).add 3) (.bool false)
      let x22_14 ← disk_Disk_decide x0 x1 x2
      M.pure 0
      )
    )
theorem S_disk_Disk_Start (x0 : Option Addr) (x1 : Int) (x2 : Sl) : Sound Go.Proofs.Try.prog 26 #[.pointer x0, .int .i64 x1, (x2 : Sl).v] (fun (r : Int) => .int .i64 r) (disk_Disk_Start x0 x1 x2) := by
  refine sound_of [(0, .pointer x0), (1, .int .i64 x1), (2, (x2 : Sl).v)] Go.Proofs.Try.func26 rfl rfl (Nat.le_of_ble_eq_true rfl) (args_of ⟨rfl, rfl, rfl, trivial⟩) (fun w0 w Q R a hret hE hR H => ?_)
  unfold disk_Disk_Start at H
  refine w_seq (fun K hK_1 => ?_)
  refine t_region ?_
  refine t_val (v := .int .i64 0) rfl rfl hE rfl (r_assign hE rfl) (fun a hE => ?_)
  refine t_nil ?_
  refine hK_1 _ _ ?_
  refine w_seq (fun K hK_2 => ?_)
  refine w_block ?_
  refine w_seq (fun K hK_3 => ?_)
  refine t_region ?_
  refine t_val (v := .pointer x0) rfl rfl hE rfl (r_move hE rfl) (fun a hE => ?_)
  refine t_call hE hR cl_disk_Disk_none rfl (S_disk_Disk_none x0) (M.unbind H) (fun x9_4 a w ea hR H => ?_)
  have hE := Env.put_some hE rfl ea; clear ea
  refine t_val (v := .bool x9_4) rfl rfl hE rfl (r_assign hE rfl) (fun a hE => ?_)
  refine t_nil ?_
  refine hK_3 _ _ ?_
  refine w_cond x9_4 hE rfl (fun hb => ?_) (fun hb => ?_)
  · replace H := M.ite_t hb H
    refine w_seq (fun K hK_5 => ?_)
    refine t_region ?_
    refine t_val (v := .int .i64 2) rfl rfl hE rfl (r_assign hE rfl) (fun a hE => ?_)
    refine t_nil ?_
    refine hK_5 _ _ ?_
    refine w_ret ?_
    exact hret _ _ _ 2 _ hE hR (res_run hE rfl (RV.tmp rfl RV.nil)) rfl H
  · replace H := M.ite_f hb H
    refine w_seq (fun K hK_6 => ?_)
    refine t_region ?_
    refine t_val (v := .pointer x0) rfl rfl hE rfl (r_move hE rfl) (fun a hE => ?_)
    obtain ⟨x12_7, qx12_7, H⟩ := H
    refine t_val (v := .pointer (some x12_7)) rfl rfl hE rfl (r_nilCheck hE (hx_eq rfl (congrArg Value.pointer qx12_7))) (fun a hE => ?_)
    refine t_val (v := .pointer (some ((x12_7).add 3))) rfl rfl hE rfl (r_fieldAddr hE rfl fd66_3) (fun a hE => ?_)
    obtain ⟨x14_8, qx14_8, H⟩ := H
    refine t_val (v := .bool x14_8) rfl rfl hE rfl (r_load hE rfl sc4 qx14_8) (fun a hE => ?_)
    refine t_val (v := .bool (!x14_8)) rfl rfl hE rfl (r_un hE rfl u_not) (fun a hE => ?_)
    refine t_val (v := .bool (!x14_8)) rfl rfl hE rfl (r_assign hE rfl) (fun a hE => ?_)
    refine t_nil ?_
    refine hK_6 _ _ ?_
    refine w_cond (!x14_8) hE rfl (fun hb => ?_) (fun hb => ?_)
    · replace H := M.ite_t hb H
      refine w_seq (fun K hK_9 => ?_)
      refine t_region ?_
      refine t_val (v := .int .i64 1) rfl rfl hE rfl (r_assign hE rfl) (fun a hE => ?_)
      refine t_nil ?_
      refine hK_9 _ _ ?_
      refine w_ret ?_
      exact hret _ _ _ 1 _ hE hR (res_run hE rfl (RV.tmp rfl RV.nil)) rfl H
    · replace H := M.ite_f hb H
      refine w_skip ?_
      refine hK_2 _ _ ?_
      refine w_seq (fun K hK_10 => ?_)
      refine t_region ?_
      refine t_val (v := .pointer x0) rfl rfl hE rfl (r_move hE rfl) (fun a hE => ?_)
      obtain ⟨x17_11, qx17_11, H⟩ := H
      refine t_val (v := .pointer (some x17_11)) rfl rfl hE rfl (r_nilCheck hE (hx_eq rfl (congrArg Value.pointer qx17_11))) (fun a hE => ?_)
      refine t_val (v := .pointer (some ((x17_11).add 3))) rfl rfl hE rfl (r_fieldAddr hE rfl fd66_3) (fun a hE => ?_)
      obtain ⟨u_12, qu_12, H⟩ := H
      refine t_sth rfl rfl hE hR (r_store hE rfl rfl sz4 qu_12) (fun a w hE hR hh => ?_)
      replace H := M.at hh H; clear hh
      refine t_nil ?_
      refine hK_10 _ _ ?_
      refine w_seq (fun K hK_13 => ?_)
      refine t_region ?_
      refine t_val (v := .pointer x0) rfl rfl hE rfl (r_move hE rfl) (fun a hE => ?_)
      refine t_val (v := .int .i64 x1) rfl rfl hE rfl (r_move hE rfl) (fun a hE => ?_)
      refine t_val (v := (x2 : Sl).v) rfl rfl hE rfl (r_move hE rfl) (fun a hE => ?_)
      refine t_call hE hR cl_disk_Disk_decide rfl (S_disk_Disk_decide x0 x1 x2) (M.unbind H) (fun x22_14 a w ea hR H => ?_)
      have hE := Env.put_some hE rfl ea; clear ea
      refine t_nil ?_
      refine hK_13 _ _ ?_
      refine w_seq (fun K hK_15 => ?_)
      refine t_region ?_
      refine t_val (v := .int .i64 0) rfl rfl hE rfl (r_assign hE rfl) (fun a hE => ?_)
      refine t_nil ?_
      refine hK_15 _ _ ?_
      refine w_ret ?_
      exact hret _ _ _ 0 _ hE hR (res_run hE rfl (RV.tmp rfl RV.nil)) rfl H

/-- (*ramble/disk.Disk).Read -/
def disk_Disk_Read (x0 : Option Addr) (x1 : Int) : M (Array Value × Int) := do
  let x4_2 ← mkB ty_api_Sector (Array.replicate 128 (.int .u8 0) : Array Value)
  let x11_5 ← disk_Disk_can x0
  M.ite (x11_5 != 0) (do
    M.need ((Array.replicate 128 (.int .u8 0) : Array Value).size = 128)
    stG x4_2 (Array.replicate 128 (.int .u8 0) : Array Value)
    let r4_9 ← ldG 128 x4_2
    M.pure (r4_9, x11_5)
    ) (do
    let x18_12 ← disk_Disk_there x0 x1
    M.ite (x18_12 != 0) (do
      M.need ((Array.replicate 128 (.int .u8 0) : Array Value).size = 128)
      stG x4_2 (Array.replicate 128 (.int .u8 0) : Array Value)
      let r4_16 ← ldG 128 x4_2
      M.pure (r4_16, x18_12)
      ) (do
      let x25_19 ← nilP x0
      let x27_20 ← ldMp ((x25_19).add 2)
      let x29_21 ← lkM (fun v : Array Value => .agg v) (.int .i64) (.int .i64 x1) (.agg (Array.replicate 128 (.int .u8 0) : Array Value)) x27_20
      let x8_22 ← mkB ty_api_Sector (Array.replicate 128 (.int .u8 0) : Array Value)
      M.need (x29_21.1.size = 128)
      stG x8_22 x29_21.1
      M.ite x29_21.2 (do
        let x33_26 ← ldG 128 x8_22
        M.need (x33_26.size = 128)
        stG x4_2 x33_26
        let r4_28 ← ldG 128 x4_2
        M.pure (r4_28, 0)
        ) (do
        let x35_31 ← nilP x0
        let x37_32 ← ldL ((x35_31).add 1)
        let x39_33 ← ixL x37_32 x1 1
        let x40_34 ← ldB x39_33
        M.ite x40_34 (do
          M.need ((Array.replicate 128 (.int .u8 0) : Array Value).size = 128)
          stG x4_2 (Array.replicate 128 (.int .u8 0) : Array Value)
          let r4_37 ← ldG 128 x4_2
          M.pure (r4_37, 40)
          ) (do
          let x43_39 ← nilP x0
          let x45_40 ← ldL ((x43_39).add 0)
          let x47_41 ← ixL x45_40 x1 128
          let x48_42 ← ldG 128 x47_41
          M.need (x48_42.size = 128)
          stG x4_2 x48_42
          let r4_44 ← ldG 128 x4_2
          M.pure (r4_44, 0)
          )
        )
      )
    )
theorem S_disk_Disk_Read (x0 : Option Addr) (x1 : Int) : Sound Go.Proofs.Try.prog 27 #[.pointer x0, .int .i64 x1] (fun (r : Array Value × Int) => .tuple #[.agg r.1, .int .i64 r.2]) (disk_Disk_Read x0 x1) := by
  refine sound_of [(0, .pointer x0), (1, .int .i64 x1)] Go.Proofs.Try.func27 rfl rfl (Nat.le_of_ble_eq_true rfl) (args_of ⟨rfl, rfl, trivial⟩) (fun w0 w Q R a hret hE hR H => ?_)
  unfold disk_Disk_Read at H
  refine w_seq (fun K hK_1 => ?_)
  refine t_region ?_
  obtain ⟨x4_2, qx4_2, H⟩ := H
  refine t_valh (v := .pointer (some x4_2)) rfl rfl hE rfl hR (r_alloc zr47 qx4_2) (fun a w hE hR hh => ?_)
  replace H := M.at hh H; clear hh
  refine t_val (v := .int .i64 0) rfl rfl hE rfl (r_assign hE rfl) (fun a hE => ?_)
  refine t_nil ?_
  refine hK_1 _ _ ?_
  refine w_seq (fun K hK_3 => ?_)
  refine w_seq (fun K hK_4 => ?_)
  refine t_region ?_
  refine t_val (v := .pointer x0) rfl rfl hE rfl (r_move hE rfl) (fun a hE => ?_)
  refine t_call hE hR cl_disk_Disk_can rfl (S_disk_Disk_can x0) (M.unbind H) (fun x11_5 a w ea hR H => ?_)
  have hE := Env.put_some hE rfl ea; clear ea
  refine t_val (v := .int .i64 x11_5) rfl rfl hE rfl (r_assign hE rfl) (fun a hE => ?_)
  refine t_nil ?_
  refine hK_4 _ _ ?_
  refine w_seq (fun K hK_6 => ?_)
  refine t_region ?_
  refine t_val (v := .int .i64 x11_5) rfl rfl hE rfl (r_move hE rfl) (fun a hE => ?_)
  refine t_val (v := .bool (x11_5 != 0)) rfl rfl hE rfl (r_bin hE rfl rfl g_int b_neq) (fun a hE => ?_)
  refine t_nil ?_
  refine hK_6 _ _ ?_
  refine w_cond (x11_5 != 0) hE rfl (fun hb => ?_) (fun hb => ?_)
  · replace H := M.ite_t hb H
    refine w_seq (fun K hK_7 => ?_)
    refine t_region ?_
    refine t_val (v := .agg (Array.replicate 128 (.int .u8 0) : Array Value)) rfl rfl hE rfl (r_build0 bd47) (fun a hE => ?_)
    refine t_val (v := .int .i64 x11_5) rfl rfl hE rfl (r_move hE rfl) (fun a hE => ?_)
    obtain ⟨qz, H⟩ := H
    obtain ⟨u_8, qu_8, H⟩ := H
    refine t_sth rfl rfl hE hR (r_storeG hE rfl rfl sz47 qz qu_8) (fun a w hE hR hh => ?_)
    replace H := M.at hh H; clear hh
    refine t_val (v := .int .i64 x11_5) rfl rfl hE rfl (r_assign hE rfl) (fun a hE => ?_)
    refine t_nil ?_
    refine hK_7 _ _ ?_
    refine w_ret ?_
    obtain ⟨r4_9, qr4_9, H⟩ := H
    exact hret _ _ _ (r4_9, x11_5) _ hE hR (res_run hE rfl (RV.cellG rfl ag47 qr4_9 (RV.tmp rfl RV.nil))) rfl H
  · replace H := M.ite_f hb H
    refine w_skip ?_
    refine hK_3 _ _ ?_
    refine w_seq (fun K hK_10 => ?_)
    refine w_seq (fun K hK_11 => ?_)
    refine t_region ?_
    refine t_val (v := .pointer x0) rfl rfl hE rfl (r_move hE rfl) (fun a hE => ?_)
    refine t_val (v := .int .i64 x1) rfl rfl hE rfl (r_move hE rfl) (fun a hE => ?_)
    refine t_call hE hR cl_disk_Disk_there rfl (S_disk_Disk_there x0 x1) (M.unbind H) (fun x18_12 a w ea hR H => ?_)
    have hE := Env.put_some hE rfl ea; clear ea
    refine t_val (v := .int .i64 x18_12) rfl rfl hE rfl (r_assign hE rfl) (fun a hE => ?_)
    refine t_nil ?_
    refine hK_11 _ _ ?_
    refine w_seq (fun K hK_13 => ?_)
    refine t_region ?_
    refine t_val (v := .int .i64 x18_12) rfl rfl hE rfl (r_move hE rfl) (fun a hE => ?_)
    refine t_val (v := .bool (x18_12 != 0)) rfl rfl hE rfl (r_bin hE rfl rfl g_int b_neq) (fun a hE => ?_)
    refine t_nil ?_
    refine hK_13 _ _ ?_
    refine w_cond (x18_12 != 0) hE rfl (fun hb => ?_) (fun hb => ?_)
    · replace H := M.ite_t hb H
      refine w_seq (fun K hK_14 => ?_)
      refine t_region ?_
      refine t_val (v := .agg (Array.replicate 128 (.int .u8 0) : Array Value)) rfl rfl hE rfl (r_build0 bd47) (fun a hE => ?_)
      refine t_val (v := .int .i64 x18_12) rfl rfl hE rfl (r_move hE rfl) (fun a hE => ?_)
      obtain ⟨qz, H⟩ := H
      obtain ⟨u_15, qu_15, H⟩ := H
      refine t_sth rfl rfl hE hR (r_storeG hE rfl rfl sz47 qz qu_15) (fun a w hE hR hh => ?_)
      replace H := M.at hh H; clear hh
      refine t_val (v := .int .i64 x18_12) rfl rfl hE rfl (r_assign hE rfl) (fun a hE => ?_)
      refine t_nil ?_
      refine hK_14 _ _ ?_
      refine w_ret ?_
      obtain ⟨r4_16, qr4_16, H⟩ := H
      exact hret _ _ _ (r4_16, x18_12) _ hE hR (res_run hE rfl (RV.cellG rfl ag47 qr4_16 (RV.tmp rfl RV.nil))) rfl H
    · replace H := M.ite_f hb H
      refine w_skip ?_
      refine hK_10 _ _ ?_
      refine w_seq (fun K hK_17 => ?_)
      refine w_seq (fun K hK_18 => ?_)
      refine t_region ?_
      refine t_val (v := .pointer x0) rfl rfl hE rfl (r_move hE rfl) (fun a hE => ?_)
      obtain ⟨x25_19, qx25_19, H⟩ := H
      refine t_val (v := .pointer (some x25_19)) rfl rfl hE rfl (r_nilCheck hE (hx_eq rfl (congrArg Value.pointer qx25_19))) (fun a hE => ?_)
      refine t_val (v := .pointer (some ((x25_19).add 2))) rfl rfl hE rfl (r_fieldAddr hE rfl fd66_2) (fun a hE => ?_)
      obtain ⟨x27_20, qx27_20, H⟩ := H
      refine t_val (v := .map x27_20) rfl rfl hE rfl (r_load hE rfl sc64 qx27_20) (fun a hE => ?_)
      refine t_val (v := .int .i64 x1) rfl rfl hE rfl (r_move hE rfl) (fun a hE => ?_)
      obtain ⟨x29_21, qx29_21, H⟩ := H
      refine t_val (v := .tuple #[.agg x29_21.1, .bool x29_21.2]) rfl rfl hE rfl (r_lookup2 (dec := (fun v : Array Value => .agg v)) hE rfl rfl un64 un3 rfl zr47 qx29_21) (fun a hE => ?_)
      refine t_val (v := .tuple #[.agg x29_21.1, .bool x29_21.2]) rfl rfl hE rfl (r_move hE rfl) (fun a hE => ?_)
      refine t_val (v := .agg x29_21.1) rfl rfl hE rfl (r_extract hE rfl rfl) (fun a hE => ?_)
      refine t_val (v := .bool x29_21.2) rfl rfl hE rfl (r_extract hE rfl rfl) (fun a hE => ?_)
      obtain ⟨x8_22, qx8_22, H⟩ := H
      refine t_valh (v := .pointer (some x8_22)) rfl rfl hE rfl hR (r_alloc zr47 qx8_22) (fun a w hE hR hh => ?_)
      replace H := M.at hh H; clear hh
      obtain ⟨qz, H⟩ := H
      obtain ⟨u_23, qu_23, H⟩ := H
      refine t_sth rfl rfl hE hR (r_storeG hE rfl rfl sz47 qz qu_23) (fun a w hE hR hh => ?_)
      replace H := M.at hh H; clear hh
      refine t_val (v := .bool x29_21.2) rfl rfl hE rfl (r_assign hE rfl) (fun a hE => ?_)
      refine t_nil ?_
      refine hK_18 _ _ ?_
      refine w_seq (fun K hK_24 => ?_)
      refine t_region ?_
      refine t_val (v := .bool x29_21.2) rfl rfl hE rfl (r_move hE rfl) (fun a hE => ?_)
      refine t_nil ?_
      refine hK_24 _ _ ?_
      refine w_cond x29_21.2 hE rfl (fun hb => ?_) (fun hb => ?_)
      · replace H := M.ite_t hb H
        refine w_seq (fun K hK_25 => ?_)
        refine t_region ?_
        obtain ⟨x33_26, qx33_26, H⟩ := H
        refine t_val (v := .agg x33_26) rfl rfl hE rfl (r_loadG hE rfl ag47 qx33_26) (fun a hE => ?_)
        obtain ⟨qz, H⟩ := H
        obtain ⟨u_27, qu_27, H⟩ := H
        refine t_sth rfl rfl hE hR (r_storeG hE rfl rfl sz47 qz qu_27) (fun a w hE hR hh => ?_)
        replace H := M.at hh H; clear hh
        refine t_val (v := .int .i64 0) rfl rfl hE rfl (r_assign hE rfl) (fun a hE => ?_)
        refine t_nil ?_
        refine hK_25 _ _ ?_
        refine w_ret ?_
        obtain ⟨r4_28, qr4_28, H⟩ := H
        exact hret _ _ _ (r4_28, 0) _ hE hR (res_run hE rfl (RV.cellG rfl ag47 qr4_28 (RV.tmp rfl RV.nil))) rfl H
      · replace H := M.ite_f hb H
        refine w_skip ?_
        refine hK_17 _ _ ?_
        refine w_seq (fun K hK_29 => ?_)
        refine w_seq (fun K hK_30 => ?_)
        refine t_region ?_
        refine t_val (v := .pointer x0) rfl rfl hE rfl (r_move hE rfl) (fun a hE => ?_)
        obtain ⟨x35_31, qx35_31, H⟩ := H
        refine t_val (v := .pointer (some x35_31)) rfl rfl hE rfl (r_nilCheck hE (hx_eq rfl (congrArg Value.pointer qx35_31))) (fun a hE => ?_)
        refine t_val (v := .pointer (some ((x35_31).add 1))) rfl rfl hE rfl (r_fieldAddr hE rfl fd66_1) (fun a hE => ?_)
        obtain ⟨x37_32, qx37_32, H⟩ := H
        refine t_val (v := (x37_32 : Sl).v) rfl rfl hE rfl (r_load hE rfl sc45 qx37_32) (fun a hE => ?_)
        refine t_val (v := .int .i64 x1) rfl rfl hE rfl (r_move hE rfl) (fun a hE => ?_)
        obtain ⟨x39_33, qx39_33, H⟩ := H
        refine t_val (v := .pointer (some x39_33)) rfl rfl hE rfl (r_indexAddrL hE rfl rfl un45 sz4 qx39_33) (fun a hE => ?_)
        obtain ⟨x40_34, qx40_34, H⟩ := H
        refine t_val (v := .bool x40_34) rfl rfl hE rfl (r_load hE rfl sc4 qx40_34) (fun a hE => ?_)
        refine t_nil ?_
        refine hK_30 _ _ ?_
        refine w_cond x40_34 hE rfl (fun hb => ?_) (fun hb => ?_)
        · replace H := M.ite_t hb H
          refine w_seq (fun K hK_35 => ?_)
          refine t_region ?_
          refine t_val (v := .agg (Array.replicate 128 (.int .u8 0) : Array Value)) rfl rfl hE rfl (r_build0 bd47) (fun a hE => ?_)
          obtain ⟨qz, H⟩ := H
          obtain ⟨u_36, qu_36, H⟩ := H
          refine t_sth rfl rfl hE hR (r_storeG hE rfl rfl sz47 qz qu_36) (fun a w hE hR hh => ?_)
          replace H := M.at hh H; clear hh
          refine t_val (v := .int .i64 40) rfl rfl hE rfl (r_assign hE rfl) (fun a hE => ?_)
          refine t_nil ?_
          refine hK_35 _ _ ?_
          refine w_ret ?_
          obtain ⟨r4_37, qr4_37, H⟩ := H
          exact hret _ _ _ (r4_37, 40) _ hE hR (res_run hE rfl (RV.cellG rfl ag47 qr4_37 (RV.tmp rfl RV.nil))) rfl H
        · replace H := M.ite_f hb H
          refine w_skip ?_
          refine hK_29 _ _ ?_
          refine w_seq (fun K hK_38 => ?_)
          refine t_region ?_
          refine t_val (v := .pointer x0) rfl rfl hE rfl (r_move hE rfl) (fun a hE => ?_)
          obtain ⟨x43_39, qx43_39, H⟩ := H
          refine t_val (v := .pointer (some x43_39)) rfl rfl hE rfl (r_nilCheck hE (hx_eq rfl (congrArg Value.pointer qx43_39))) (fun a hE => ?_)
          refine t_val (v := .pointer (some ((x43_39).add 0))) rfl rfl hE rfl (r_fieldAddr hE rfl fd66_0) (fun a hE => ?_)
          obtain ⟨x45_40, qx45_40, H⟩ := H
          refine t_val (v := (x45_40 : Sl).v) rfl rfl hE rfl (r_load hE rfl sc63 qx45_40) (fun a hE => ?_)
          refine t_val (v := .int .i64 x1) rfl rfl hE rfl (r_move hE rfl) (fun a hE => ?_)
          obtain ⟨x47_41, qx47_41, H⟩ := H
          refine t_val (v := .pointer (some x47_41)) rfl rfl hE rfl (r_indexAddrL hE rfl rfl un63 sz47 qx47_41) (fun a hE => ?_)
          obtain ⟨x48_42, qx48_42, H⟩ := H
          refine t_val (v := .agg x48_42) rfl rfl hE rfl (r_loadG hE rfl ag47 qx48_42) (fun a hE => ?_)
          obtain ⟨qz, H⟩ := H
          obtain ⟨u_43, qu_43, H⟩ := H
          refine t_sth rfl rfl hE hR (r_storeG hE rfl rfl sz47 qz qu_43) (fun a w hE hR hh => ?_)
          replace H := M.at hh H; clear hh
          refine t_val (v := .int .i64 0) rfl rfl hE rfl (r_assign hE rfl) (fun a hE => ?_)
          refine t_nil ?_
          refine hK_38 _ _ ?_
          refine w_ret ?_
          obtain ⟨r4_44, qr4_44, H⟩ := H
          exact hret _ _ _ (r4_44, 0) _ hE hR (res_run hE rfl (RV.cellG rfl ag47 qr4_44 (RV.tmp rfl RV.nil))) rfl H

/-- (*ramble/disk.Disk).Down -/
def disk_Disk_Down (x0 : Option Addr) : M (Bool) := do
  let x4_3 ← disk_Disk_none x0
  let x11_4 ← M.ite (!x4_3) (do
    let x8_5 ← nilP x0
    let x10_6 ← ldB ((x8_5).add 3)
    M.pure x10_6
    ) (do
    M.pure false
    )
  M.pure x11_4
theorem S_disk_Disk_Down (x0 : Option Addr) : Sound Go.Proofs.Try.prog 31 #[.pointer x0] (fun (r : Bool) => .bool r) (disk_Disk_Down x0) := by
  refine sound_of [(0, .pointer x0)] Go.Proofs.Try.func31 rfl rfl (Nat.le_of_ble_eq_true rfl) (args_of ⟨rfl, trivial⟩) (fun w0 w Q R a hret hE hR H => ?_)
  unfold disk_Disk_Down at H
  refine w_seq (fun K hK_1 => ?_)
  refine t_region ?_
  refine t_val (v := .bool false) rfl rfl hE rfl (r_assign hE rfl) (fun a hE => ?_)
  refine t_nil ?_
  refine hK_1 _ _ ?_
  refine w_seq (fun K hK_2 => ?_)
  refine t_region ?_
  refine t_val (v := .pointer x0) rfl rfl hE rfl (r_move hE rfl) (fun a hE => ?_)
  refine t_call hE hR cl_disk_Disk_none rfl (S_disk_Disk_none x0) (M.unbind H) (fun x4_3 a w ea hR H => ?_)
  have hE := Env.put_some hE rfl ea; clear ea
  refine t_val (v := .bool (!x4_3)) rfl rfl hE rfl (r_un hE rfl u_not) (fun a hE => ?_)
  refine t_val (v := .bool (!x4_3)) rfl rfl hE rfl (r_move hE rfl) (fun a hE => ?_)
  refine t_grp (n := (⟨12, []⟩ : Frm)) (w0 := w0) 5 (fun x11_4 : Bool => [(2, .bool false), (11, .bool x11_4)]) (M.unbind H) (fun Kr hKr H => ?_) ?_
  · rcases bool_em (!x4_3) with hb | hb
    · replace H := M.ite_t hb H
      have hE := hE.reb 6 (!x4_3) true hb rfl
      refine t_on rfl hE rfl rfl rfl ?_
      refine t_val (v := .pointer x0) rfl rfl hE rfl (r_move hE rfl) (fun a hE => ?_)
      refine t_on rfl hE rfl rfl rfl ?_
      obtain ⟨x8_5, qx8_5, H⟩ := H
      refine t_val (v := .pointer (some x8_5)) rfl rfl hE rfl (r_nilCheck hE (hx_eq rfl (congrArg Value.pointer qx8_5))) (fun a hE => ?_)
      refine t_on rfl hE rfl rfl rfl ?_
      refine t_val (v := .pointer (some ((x8_5).add 3))) rfl rfl hE rfl (r_fieldAddr hE rfl fd66_3) (fun a hE => ?_)
      refine t_on rfl hE rfl rfl rfl ?_
      obtain ⟨x10_6, qx10_6, H⟩ := H
      refine t_val (v := .bool x10_6) rfl rfl hE rfl (r_load hE rfl sc4 qx10_6) (fun a hE => ?_)
      refine t_val rfl rfl hE rfl (r_pick_t hE rfl rfl) (fun a hE => ?_)
      refine t_nil ?_
      exact hKr _ _ _ (hE.cut (.cons rfl (.cons rfl Subs.nil))) hR H
    · replace H := M.ite_f hb H
      have hE := hE.reb 6 (!x4_3) false hb rfl
      refine t_off rfl hE rfl rfl rfl (fun a ea => ?_)
      have hE := Env.put_some hE rfl ea; clear ea
      refine t_off rfl hE rfl rfl rfl (fun a ea => ?_)
      have hE := Env.put_some hE rfl ea; clear ea
      refine t_off rfl hE rfl rfl rfl (fun a ea => ?_)
      have hE := Env.put_some hE rfl ea; clear ea
      refine t_off rfl hE rfl rfl rfl (fun a ea => ?_)
      have hE := Env.put_some hE rfl ea; clear ea
      refine t_val rfl rfl hE rfl (r_pick_f hE rfl rfl) (fun a hE => ?_)
      refine t_nil ?_
      exact hKr _ _ _ (hE.cut (.cons rfl (.cons rfl Subs.nil))) hR H
  · intro x11_4 a w hE hR H
    refine t_val (v := .bool x11_4) rfl rfl hE rfl (r_assign hE rfl) (fun a hE => ?_)
    refine t_nil ?_
    refine hK_2 _ _ ?_
    refine w_ret ?_
    exact hret _ _ _ x11_4 _ hE hR (res_run hE rfl (RV.tmp rfl RV.nil)) rfl H

end Gx
namespace Gx
open Go
set_option linter.unusedVariables false
set_option maxRecDepth 100000
/-- ramble/ramblelaw04.begun -/
def ramblelaw04_begun_j1 (x0_29 : Bool) : M (Bool) := do
  M.pure x0_29
theorem tb20_6 : tabAt Go.Proofs.Try.f20 6 [[], [], [0, 1], [2, 1], [3], [4, 3], [3, 5], [6, 3], [7], [8, 7], [7, 9], [10, 7, 0, 1, 2, 3, 4, 5, 6, 7, 8, 9, 10]] [[], [], [0, 1], [2], [3], [3, 4], [3, 5], [6], [7], [7, 8], [7, 9], [10]] [[], [], [0, 1], [0, 1, 2], [0, 1, 2, 3], [0, 1, 2, 3, 4], [0, 1, 2, 3, 4, 5], [0, 1, 2, 3, 4, 5, 6], [0, 1, 2, 3, 4, 5, 6, 7], [0, 1, 2, 3, 4, 5, 6, 7, 8], [0, 1, 2, 3, 4, 5, 6, 7, 8, 9], [0, 1, 2, 3, 4, 5, 6, 7, 8, 9, 10]] = true := by kernel_rfl
def ramblelaw04_begun  : M (Bool) := do
  let x7_3 ← disk_New 9
  let x15_6 ← M.ite ((x7_3.1).isNone) (do
    M.pure true
    ) (do
    M.pure (x7_3.2 != 0)
    )
  let x21_7 ← M.ite x15_6 (do
    M.pure true
    ) (do
    let x18_8 ← ramblelaw04_filled 1
    let x19_9 ← disk_Disk_Write x7_3.1 3 x18_8
    M.pure (x19_9 != 0)
    )
  let x27_10 ← M.ite x21_7 (do
    M.pure true
    ) (do
    let x24_11 ← ramblelaw04_filled 2
    let x25_12 ← disk_Disk_Write x7_3.1 5 x24_11
    M.pure (x25_12 != 0)
    )
  let x33_13 ← M.ite x27_10 (do
    M.pure true
    ) (do
    let x30_14 ← bdL ty_bool 1 #[.bool true]
    let x31_15 ← disk_Disk_Crash x7_3.1 1 x30_14
    M.pure (x31_15 != 0)
    )
  let x38_16 ← M.ite x33_13 (do
    M.pure true
    ) (do
    let x36_17 ← disk_Disk_Down x7_3.1
    M.pure (!x36_17)
    )
  let x43_18 ← M.ite x38_16 (do
    M.pure true
    ) (do
    let x41_19 ← disk_Disk_Start x7_3.1 0 Sl.nil
    M.pure (x41_19 != 0)
    )
  M.ite x43_18 (do
    M.pure false
    ) (do
    let x46_22 ← disk_Disk_Read x7_3.1 3
    let x3_23 ← mkB ty_api_Sector (Array.replicate 128 (.int .u8 0) : Array Value)
    M.need (x46_22.1.size = 128)
    stG x3_23 x46_22.1
    let x51_26 ← disk_Disk_Read x7_3.1 5
    let x4_27 ← mkB ty_api_Sector (Array.replicate 128 (.int .u8 0) : Array Value)
    M.need (x51_26.1.size = 128)
    stG x4_27 x51_26.1
    let x54_30 ← ldG 128 x3_23
    let x55_31 ← ramblelaw04_filled 1
    chk (fun h : Heap => (x54_30.size = 128 ∧ ∀ i, i < 128 → hcell h (Addr.add x3_23 i) = x54_30[i]?))
    let x56_32 ← eqA .u8 128 x54_30 x55_31
    M.ite x56_32 (do
      M.ite (x46_22.2 == 0) (do
        ramblelaw04_begun_j1 (x51_26.2 == 40)
        ) (do
        ramblelaw04_begun_j1 false
        )
      ) (do
      ramblelaw04_begun_j1 false
      )
    )
theorem S_ramblelaw04_begun  : Sound Go.Proofs.Try.prog 20 #[] (fun (r : Bool) => .bool r) (ramblelaw04_begun ) := by
  refine sound_of [] Go.Proofs.Try.func20 rfl rfl (Nat.le_of_ble_eq_true rfl) (args_of trivial) (fun w0 w Q R a hret hE hR H => ?_)
  unfold ramblelaw04_begun at H
  refine w_seq (fun K hK_1 => ?_)
  refine t_region ?_
  refine t_val (v := .bool false) rfl rfl hE rfl (r_assign hE rfl) (fun a hE => ?_)
  refine t_nil ?_
  refine hK_1 _ _ ?_
  refine w_seq (fun K hK_2 => ?_)
  refine t_region ?_
  refine t_call hE hR cl_disk_New rfl (S_disk_New 9) (M.unbind H) (fun x7_3 a w ea hR H => ?_)
  have hE := Env.put_some hE rfl ea; clear ea
  refine t_val (v := .tuple #[.pointer x7_3.1, .int .i64 x7_3.2]) rfl rfl hE rfl (r_move hE rfl) (fun a hE => ?_)
  refine t_val (v := .pointer x7_3.1) rfl rfl hE rfl (r_extract hE rfl rfl) (fun a hE => ?_)
  refine t_val (v := .int .i64 x7_3.2) rfl rfl hE rfl (r_extract hE rfl rfl) (fun a hE => ?_)
  refine t_val (v := .pointer x7_3.1) rfl rfl hE rfl (r_assign hE rfl) (fun a hE => ?_)
  refine t_val (v := .int .i64 x7_3.2) rfl rfl hE rfl (r_assign hE rfl) (fun a hE => ?_)
  refine t_nil ?_
  refine hK_2 _ _ ?_
  refine w_seq (fun K hK_4 => ?_)
  refine w_seq (fun K hK_5 => ?_)
  refine t_region ?_
  refine t_val (v := .pointer x7_3.1) rfl rfl hE rfl (r_move hE rfl) (fun a hE => ?_)
  refine t_val (v := .bool ((x7_3.1).isNone)) rfl rfl hE rfl (r_bin hE rfl rfl g_ptr (b_eqlP un23)) (fun a hE => ?_)
  refine t_val (v := .bool ((x7_3.1).isNone)) rfl rfl hE rfl (r_move hE rfl) (fun a hE => ?_)
  refine t_grp (n := (⟨65, []⟩ : Frm)) (w0 := w0) 3 (fun x15_6 : Bool => [(1, .pointer x7_3.1), (15, .bool x15_6)]) (M.unbind H) (fun Kr hKr H => ?_) ?_
  · rcases bool_em ((x7_3.1).isNone) with hb | hb
    · replace H := M.ite_t hb H
      have hE := hE.reb 12 ((x7_3.1).isNone) true hb rfl
      refine t_off rfl hE rfl rfl rfl (fun a ea => ?_)
      have hE := Env.put_some hE rfl ea; clear ea
      refine t_off rfl hE rfl rfl rfl (fun a ea => ?_)
      have hE := Env.put_some hE rfl ea; clear ea
      refine t_val rfl rfl hE rfl (r_pick_t hE rfl rfl) (fun a hE => ?_)
      refine t_nil ?_
      exact hKr _ _ _ (hE.cut (.cons rfl (.cons rfl Subs.nil))) hR H
    · replace H := M.ite_f hb H
      have hE := hE.reb 12 ((x7_3.1).isNone) false hb rfl
      refine t_on rfl hE rfl rfl rfl ?_
      refine t_val (v := .int .i64 x7_3.2) rfl rfl hE rfl (r_move hE rfl) (fun a hE => ?_)
      refine t_on rfl hE rfl rfl rfl ?_
      refine t_val (v := .bool (x7_3.2 != 0)) rfl rfl hE rfl (r_bin hE rfl rfl g_int b_neq) (fun a hE => ?_)
      refine t_val rfl rfl hE rfl (r_pick_f hE rfl rfl) (fun a hE => ?_)
      refine t_nil ?_
      exact hKr _ _ _ (hE.cut (.cons rfl (.cons rfl Subs.nil))) hR H
  · intro x15_6 a w hE hR H
    refine t_val (v := .bool x15_6) rfl rfl hE rfl (r_move hE rfl) (fun a hE => ?_)
    refine t_grp (n := (⟨65, []⟩ : Frm)) (w0 := w0) 5 (fun x21_7 : Bool => [(1, .pointer x7_3.1), (21, .bool x21_7)]) (M.unbind H) (fun Kr hKr H => ?_) ?_
    · rcases bool_em x15_6 with hb | hb
      · replace H := M.ite_t hb H
        have hE := hE.reb 16 x15_6 true hb rfl
        refine t_off rfl hE rfl rfl rfl (fun a ea => ?_)
        have hE := Env.put_some hE rfl ea; clear ea
        refine t_off rfl hE rfl rfl rfl (fun a ea => ?_)
        have hE := Env.put_some hE rfl ea; clear ea
        refine t_off rfl hE rfl rfl rfl (fun a ea => ?_)
        have hE := Env.put_some hE rfl ea; clear ea
        refine t_off rfl hE rfl rfl rfl (fun a ea => ?_)
        have hE := Env.put_some hE rfl ea; clear ea
        refine t_val rfl rfl hE rfl (r_pick_t hE rfl rfl) (fun a hE => ?_)
        refine t_nil ?_
        exact hKr _ _ _ (hE.cut (.cons rfl (.cons rfl Subs.nil))) hR H
      · replace H := M.ite_f hb H
        have hE := hE.reb 16 x15_6 false hb rfl
        refine t_on rfl hE rfl rfl rfl ?_
        refine t_val (v := .pointer x7_3.1) rfl rfl hE rfl (r_move hE rfl) (fun a hE => ?_)
        refine t_on rfl hE rfl rfl rfl ?_
        refine t_call hE hR cl_ramblelaw04_filled rfl (S_ramblelaw04_filled 1) (M.unbind H) (fun x18_8 a w ea hR H => ?_)
        have hE := Env.put_some hE rfl ea; clear ea
        refine t_on rfl hE rfl rfl rfl ?_
        refine t_call hE hR cl_disk_Disk_Write rfl (S_disk_Disk_Write x7_3.1 3 x18_8) (M.unbind H) (fun x19_9 a w ea hR H => ?_)
        have hE := Env.put_some hE rfl ea; clear ea
        refine t_on rfl hE rfl rfl rfl ?_
        refine t_val (v := .bool (x19_9 != 0)) rfl rfl hE rfl (r_bin hE rfl rfl g_int b_neq) (fun a hE => ?_)
        refine t_val rfl rfl hE rfl (r_pick_f hE rfl rfl) (fun a hE => ?_)
        refine t_nil ?_
        exact hKr _ _ _ (hE.cut (.cons rfl (.cons rfl Subs.nil))) hR H
    · intro x21_7 a w hE hR H
      refine t_val (v := .bool x21_7) rfl rfl hE rfl (r_move hE rfl) (fun a hE => ?_)
      refine t_grp (n := (⟨65, []⟩ : Frm)) (w0 := w0) 5 (fun x27_10 : Bool => [(1, .pointer x7_3.1), (27, .bool x27_10)]) (M.unbind H) (fun Kr hKr H => ?_) ?_
      · rcases bool_em x21_7 with hb | hb
        · replace H := M.ite_t hb H
          have hE := hE.reb 22 x21_7 true hb rfl
          refine t_off rfl hE rfl rfl rfl (fun a ea => ?_)
          have hE := Env.put_some hE rfl ea; clear ea
          refine t_off rfl hE rfl rfl rfl (fun a ea => ?_)
          have hE := Env.put_some hE rfl ea; clear ea
          refine t_off rfl hE rfl rfl rfl (fun a ea => ?_)
          have hE := Env.put_some hE rfl ea; clear ea
          refine t_off rfl hE rfl rfl rfl (fun a ea => ?_)
          have hE := Env.put_some hE rfl ea; clear ea
          refine t_val rfl rfl hE rfl (r_pick_t hE rfl rfl) (fun a hE => ?_)
          refine t_nil ?_
          exact hKr _ _ _ (hE.cut (.cons rfl (.cons rfl Subs.nil))) hR H
        · replace H := M.ite_f hb H
          have hE := hE.reb 22 x21_7 false hb rfl
          refine t_on rfl hE rfl rfl rfl ?_
          refine t_val (v := .pointer x7_3.1) rfl rfl hE rfl (r_move hE rfl) (fun a hE => ?_)
          refine t_on rfl hE rfl rfl rfl ?_
          refine t_call hE hR cl_ramblelaw04_filled rfl (S_ramblelaw04_filled 2) (M.unbind H) (fun x24_11 a w ea hR H => ?_)
          have hE := Env.put_some hE rfl ea; clear ea
          refine t_on rfl hE rfl rfl rfl ?_
          refine t_call hE hR cl_disk_Disk_Write rfl (S_disk_Disk_Write x7_3.1 5 x24_11) (M.unbind H) (fun x25_12 a w ea hR H => ?_)
          have hE := Env.put_some hE rfl ea; clear ea
          refine t_on rfl hE rfl rfl rfl ?_
          refine t_val (v := .bool (x25_12 != 0)) rfl rfl hE rfl (r_bin hE rfl rfl g_int b_neq) (fun a hE => ?_)
          refine t_val rfl rfl hE rfl (r_pick_f hE rfl rfl) (fun a hE => ?_)
          refine t_nil ?_
          exact hKr _ _ _ (hE.cut (.cons rfl (.cons rfl Subs.nil))) hR H
      · intro x27_10 a w hE hR H
        refine t_val (v := .bool x27_10) rfl rfl hE rfl (r_move hE rfl) (fun a hE => ?_)
        refine t_grp (n := (⟨65, []⟩ : Frm)) (w0 := w0) 5 (fun x33_13 : Bool => [(1, .pointer x7_3.1), (33, .bool x33_13)]) (M.unbind H) (fun Kr hKr H => ?_) ?_
        · rcases bool_em x27_10 with hb | hb
          · replace H := M.ite_t hb H
            have hE := hE.reb 28 x27_10 true hb rfl
            refine t_off rfl hE rfl rfl rfl (fun a ea => ?_)
            have hE := Env.put_some hE rfl ea; clear ea
            refine t_off rfl hE rfl rfl rfl (fun a ea => ?_)
            have hE := Env.put_some hE rfl ea; clear ea
            refine t_off rfl hE rfl rfl rfl (fun a ea => ?_)
            have hE := Env.put_some hE rfl ea; clear ea
            refine t_off rfl hE rfl rfl rfl (fun a ea => ?_)
            have hE := Env.put_some hE rfl ea; clear ea
            refine t_val rfl rfl hE rfl (r_pick_t hE rfl rfl) (fun a hE => ?_)
            refine t_nil ?_
            exact hKr _ _ _ (hE.cut (.cons rfl (.cons rfl Subs.nil))) hR H
          · replace H := M.ite_f hb H
            have hE := hE.reb 28 x27_10 false hb rfl
            refine t_on rfl hE rfl rfl rfl ?_
            refine t_val (v := .pointer x7_3.1) rfl rfl hE rfl (r_move hE rfl) (fun a hE => ?_)
            refine t_on rfl hE rfl rfl rfl ?_
            obtain ⟨x30_14, qx30_14, H⟩ := H
            refine t_valh (v := (x30_14 : Sl).v) rfl rfl hE rfl hR (r_buildL (cells := #[.bool true]) hE rfl un45 sz4 zr4 rfl rfl qx30_14) (fun a w hE hR hh => ?_)
            replace H := M.at hh H; clear hh
            refine t_on rfl hE rfl rfl rfl ?_
            refine t_call hE hR cl_disk_Disk_Crash rfl (S_disk_Disk_Crash x7_3.1 1 x30_14) (M.unbind H) (fun x31_15 a w ea hR H => ?_)
            have hE := Env.put_some hE rfl ea; clear ea
            refine t_on rfl hE rfl rfl rfl ?_
            refine t_val (v := .bool (x31_15 != 0)) rfl rfl hE rfl (r_bin hE rfl rfl g_int b_neq) (fun a hE => ?_)
            refine t_val rfl rfl hE rfl (r_pick_f hE rfl rfl) (fun a hE => ?_)
            refine t_nil ?_
            exact hKr _ _ _ (hE.cut (.cons rfl (.cons rfl Subs.nil))) hR H
        · intro x33_13 a w hE hR H
          refine t_val (v := .bool x33_13) rfl rfl hE rfl (r_move hE rfl) (fun a hE => ?_)
          refine t_grp (n := (⟨65, []⟩ : Frm)) (w0 := w0) 4 (fun x38_16 : Bool => [(1, .pointer x7_3.1), (38, .bool x38_16)]) (M.unbind H) (fun Kr hKr H => ?_) ?_
          · rcases bool_em x33_13 with hb | hb
            · replace H := M.ite_t hb H
              have hE := hE.reb 34 x33_13 true hb rfl
              refine t_off rfl hE rfl rfl rfl (fun a ea => ?_)
              have hE := Env.put_some hE rfl ea; clear ea
              refine t_off rfl hE rfl rfl rfl (fun a ea => ?_)
              have hE := Env.put_some hE rfl ea; clear ea
              refine t_off rfl hE rfl rfl rfl (fun a ea => ?_)
              have hE := Env.put_some hE rfl ea; clear ea
              refine t_val rfl rfl hE rfl (r_pick_t hE rfl rfl) (fun a hE => ?_)
              refine t_nil ?_
              exact hKr _ _ _ (hE.cut (.cons rfl (.cons rfl Subs.nil))) hR H
            · replace H := M.ite_f hb H
              have hE := hE.reb 34 x33_13 false hb rfl
              refine t_on rfl hE rfl rfl rfl ?_
              refine t_val (v := .pointer x7_3.1) rfl rfl hE rfl (r_move hE rfl) (fun a hE => ?_)
              refine t_on rfl hE rfl rfl rfl ?_
              refine t_call hE hR cl_disk_Disk_Down rfl (S_disk_Disk_Down x7_3.1) (M.unbind H) (fun x36_17 a w ea hR H => ?_)
              have hE := Env.put_some hE rfl ea; clear ea
              refine t_on rfl hE rfl rfl rfl ?_
              refine t_val (v := .bool (!x36_17)) rfl rfl hE rfl (r_un hE rfl u_not) (fun a hE => ?_)
              refine t_val rfl rfl hE rfl (r_pick_f hE rfl rfl) (fun a hE => ?_)
              refine t_nil ?_
              exact hKr _ _ _ (hE.cut (.cons rfl (.cons rfl Subs.nil))) hR H
          · intro x38_16 a w hE hR H
            refine t_val (v := .bool x38_16) rfl rfl hE rfl (r_move hE rfl) (fun a hE => ?_)
            refine t_grp (n := (⟨65, []⟩ : Frm)) (w0 := w0) 4 (fun x43_18 : Bool => [(1, .pointer x7_3.1), (43, .bool x43_18)]) (M.unbind H) (fun Kr hKr H => ?_) ?_
            · rcases bool_em x38_16 with hb | hb
              · replace H := M.ite_t hb H
                have hE := hE.reb 39 x38_16 true hb rfl
                refine t_off rfl hE rfl rfl rfl (fun a ea => ?_)
                have hE := Env.put_some hE rfl ea; clear ea
                refine t_off rfl hE rfl rfl rfl (fun a ea => ?_)
                have hE := Env.put_some hE rfl ea; clear ea
                refine t_off rfl hE rfl rfl rfl (fun a ea => ?_)
                have hE := Env.put_some hE rfl ea; clear ea
                refine t_val rfl rfl hE rfl (r_pick_t hE rfl rfl) (fun a hE => ?_)
                refine t_nil ?_
                exact hKr _ _ _ (hE.cut (.cons rfl (.cons rfl Subs.nil))) hR H
              · replace H := M.ite_f hb H
                have hE := hE.reb 39 x38_16 false hb rfl
                refine t_on rfl hE rfl rfl rfl ?_
                refine t_val (v := .pointer x7_3.1) rfl rfl hE rfl (r_move hE rfl) (fun a hE => ?_)
                refine t_on rfl hE rfl rfl rfl ?_
                refine t_call hE hR cl_disk_Disk_Start rfl (S_disk_Disk_Start x7_3.1 0 Sl.nil) (M.unbind H) (fun x41_19 a w ea hR H => ?_)
                have hE := Env.put_some hE rfl ea; clear ea
                refine t_on rfl hE rfl rfl rfl ?_
                refine t_val (v := .bool (x41_19 != 0)) rfl rfl hE rfl (r_bin hE rfl rfl g_int b_neq) (fun a hE => ?_)
                refine t_val rfl rfl hE rfl (r_pick_f hE rfl rfl) (fun a hE => ?_)
                refine t_nil ?_
                exact hKr _ _ _ (hE.cut (.cons rfl (.cons rfl Subs.nil))) hR H
            · intro x43_18 a w hE hR H
              refine t_nil ?_
              refine hK_5 _ _ ?_
              refine w_cond x43_18 hE rfl (fun hb => ?_) (fun hb => ?_)
              · replace H := M.ite_t hb H
                refine w_seq (fun K hK_20 => ?_)
                refine t_region ?_
                refine t_val (v := .bool false) rfl rfl hE rfl (r_assign hE rfl) (fun a hE => ?_)
                refine t_nil ?_
                refine hK_20 _ _ ?_
                refine w_ret ?_
                exact hret _ _ _ false _ hE hR (res_run hE rfl (RV.tmp rfl RV.nil)) rfl H
              · replace H := M.ite_f hb H
                refine w_skip ?_
                refine hK_4 _ _ ?_
                refine w_seq (fun K hK_21 => ?_)
                refine t_region ?_
                refine t_val (v := .pointer x7_3.1) rfl rfl hE rfl (r_move hE rfl) (fun a hE => ?_)
                refine t_call hE hR cl_disk_Disk_Read rfl (S_disk_Disk_Read x7_3.1 3) (M.unbind H) (fun x46_22 a w ea hR H => ?_)
                have hE := Env.put_some hE rfl ea; clear ea
                refine t_val (v := .tuple #[.agg x46_22.1, .int .i64 x46_22.2]) rfl rfl hE rfl (r_move hE rfl) (fun a hE => ?_)
                refine t_val (v := .agg x46_22.1) rfl rfl hE rfl (r_extract hE rfl rfl) (fun a hE => ?_)
                refine t_val (v := .int .i64 x46_22.2) rfl rfl hE rfl (r_extract hE rfl rfl) (fun a hE => ?_)
                obtain ⟨x3_23, qx3_23, H⟩ := H
                refine t_valh (v := .pointer (some x3_23)) rfl rfl hE rfl hR (r_alloc zr47 qx3_23) (fun a w hE hR hh => ?_)
                replace H := M.at hh H; clear hh
                obtain ⟨qz, H⟩ := H
                obtain ⟨u_24, qu_24, H⟩ := H
                refine t_sth rfl rfl hE hR (r_storeG hE rfl rfl sz47 qz qu_24) (fun a w hE hR hh => ?_)
                replace H := M.at hh H; clear hh
                refine t_val (v := .int .i64 x46_22.2) rfl rfl hE rfl (r_assign hE rfl) (fun a hE => ?_)
                refine t_nil ?_
                refine hK_21 _ _ ?_
                refine w_seq (fun K hK_25 => ?_)
                refine t_region ?_
                refine t_val (v := .pointer x7_3.1) rfl rfl hE rfl (r_move hE rfl) (fun a hE => ?_)
                refine t_call hE hR cl_disk_Disk_Read rfl (S_disk_Disk_Read x7_3.1 5) (M.unbind H) (fun x51_26 a w ea hR H => ?_)
                have hE := Env.put_some hE rfl ea; clear ea
                refine t_val (v := .tuple #[.agg x51_26.1, .int .i64 x51_26.2]) rfl rfl hE rfl (r_move hE rfl) (fun a hE => ?_)
                refine t_val (v := .agg x51_26.1) rfl rfl hE rfl (r_extract hE rfl rfl) (fun a hE => ?_)
                refine t_val (v := .int .i64 x51_26.2) rfl rfl hE rfl (r_extract hE rfl rfl) (fun a hE => ?_)
                obtain ⟨x4_27, qx4_27, H⟩ := H
                refine t_valh (v := .pointer (some x4_27)) rfl rfl hE rfl hR (r_alloc zr47 qx4_27) (fun a w hE hR hh => ?_)
                replace H := M.at hh H; clear hh
                obtain ⟨qz, H⟩ := H
                obtain ⟨u_28, qu_28, H⟩ := H
                refine t_sth rfl rfl hE hR (r_storeG hE rfl rfl sz47 qz qu_28) (fun a w hE hR hh => ?_)
                replace H := M.at hh H; clear hh
                refine t_val (v := .int .i64 x51_26.2) rfl rfl hE rfl (r_assign hE rfl) (fun a hE => ?_)
                refine t_nil ?_
                refine hK_25 _ _ ?_
                refine w_seq_join (fun a w => ∃ (x0_29 : Bool), Env (⟨65, []⟩ : Frm) a [(0, .bool x0_29)] ∧ Rest w0 w ∧ (ramblelaw04_begun_j1 x0_29).wp w.heap Q) ?_ ?_
                · rintro a w ⟨x0_29, hE, hR, H⟩
                  unfold ramblelaw04_begun_j1 at H
                  refine w_ret ?_
                  exact hret _ _ _ x0_29 _ hE hR (res_run hE rfl (RV.tmp rfl RV.nil)) rfl H
                · skip
                  obtain ⟨x54_30, qx54_30, H⟩ := H
                  have hT := tab_of tb20_6 rfl rfl
                  refine d_start (fun w : World => (fun h : Heap => (x54_30.size = 128 ∧ ∀ i, i < 128 → hcell h (Addr.add x3_23 i) = x54_30[i]?)) w.heap) [2, 3, 4, 5, 6, 7, 8, 9, 10, 11] #[false, false, false, false, false, false, false, false, false, false, false, false] mo hR rfl rfl (fun w' e => by rw [e]; exact qx54_30) (fun w hh hR hs => ?_)
                  replace H := M.at hh H; clear hh
                  refine d_read (i := 0) (v := .agg x54_30) #[true, false, false, false, false, false, false, false, false, false, false, false] rfl rfl hT (by kernel_rfl) hE rfl (wanted_none rfl) hs (fun w s => r_loadG hE rfl ag47 s) (fun a hE => ?_)
                  refine d_call (i := 1) #[true, true, false, false, false, false, false, false, false, false, false, false] rfl rfl rfl hT (by kernel_rfl) rfl hE hR (wanted_none rfl) cl_ramblelaw04_filled rfl (S_ramblelaw04_filled 1) (M.unbind H) (fun r h H w' e => by obtain ⟨_, sA, H⟩ := H; rw [e]; exact sA) (fun x55_31 a w ea hR H hs => ?_)
                  obtain ⟨_, sA, H⟩ := H; clear sA
                  have hE := Env.put_some hE rfl ea; clear ea
                  obtain ⟨x56_32, qx56_32, H⟩ := H
                  rcases bool_em x56_32 with hb_33 | hb_33
                  · replace H := M.ite_t hb_33 H
                    rcases bool_em (x46_22.2 == 0) with hb_34 | hb_34
                    · replace H := M.ite_t hb_34 H
                      refine d_pureg (i := 2) (v := .bool x56_32) #[true, true, true, false, false, false, false, false, false, false, false, false] rfl rfl hT (by kernel_rfl) hE rfl (wanted_none rfl) (fun w => r_bin hE rfl rfl (g_agg eg47) (b_eqlA un47 un5 sz5 qx56_32)) (fun a hE => ?_)
                      refine d_pureg (i := 3) (v := .bool x56_32) #[true, true, true, true, false, false, false, false, false, false, false, false] rfl rfl hT (by kernel_rfl) hE rfl (wanted_none rfl) (fun w => r_move hE rfl) (fun a hE => ?_)
                      have hE := hE.reb 57 x56_32 true hb_33 rfl
                      refine d_pureg (i := 4) (v := .int .i64 x46_22.2) #[true, true, true, true, true, false, false, false, false, false, false, false] rfl rfl hT (by kernel_rfl) hE rfl (wanted_of rfl hE rfl rfl rfl) (fun w => r_move hE rfl) (fun a hE => ?_)
                      refine d_pureg (i := 5) (v := .bool (x46_22.2 == 0)) #[true, true, true, true, true, true, false, false, false, false, false, false] rfl rfl hT (by kernel_rfl) hE rfl (wanted_of rfl hE rfl rfl rfl) (fun w => r_bin hE rfl rfl g_int b_eql) (fun a hE => ?_)
                      refine d_pureg (i := 6) (v := .bool (x46_22.2 == 0)) #[true, true, true, true, true, true, true, false, false, false, false, false] rfl rfl hT (by kernel_rfl) hE rfl (wanted_none rfl) (fun w => r_pick_t hE rfl rfl) (fun a hE => ?_)
                      refine d_pureg (i := 7) (v := .bool (x46_22.2 == 0)) #[true, true, true, true, true, true, true, true, false, false, false, false] rfl rfl hT (by kernel_rfl) hE rfl (wanted_none rfl) (fun w => r_move hE rfl) (fun a hE => ?_)
                      have hE := hE.reb 61 (x46_22.2 == 0) true hb_34 rfl
                      refine d_pureg (i := 8) (v := .int .i64 x51_26.2) #[true, true, true, true, true, true, true, true, true, false, false, false] rfl rfl hT (by kernel_rfl) hE rfl (wanted_of rfl hE rfl rfl rfl) (fun w => r_move hE rfl) (fun a hE => ?_)
                      refine d_pureg (i := 9) (v := .bool (x51_26.2 == 40)) #[true, true, true, true, true, true, true, true, true, true, false, false] rfl rfl hT (by kernel_rfl) hE rfl (wanted_of rfl hE rfl rfl rfl) (fun w => r_bin hE rfl rfl g_int b_eql) (fun a hE => ?_)
                      refine d_pureg (i := 10) (v := .bool (x51_26.2 == 40)) #[true, true, true, true, true, true, true, true, true, true, true, false] rfl rfl hT (by kernel_rfl) hE rfl (wanted_none rfl) (fun w => r_pick_t hE rfl rfl) (fun a hE => ?_)
                      refine d_pureg (i := 11) (v := .bool (x51_26.2 == 40)) #[true, true, true, true, true, true, true, true, true, true, true, true] rfl rfl hT (by kernel_rfl) hE rfl (wanted_none rfl) (fun w => r_assign hE rfl) (fun a hE => ?_)
                      refine d_done hT (by kernel_rfl) ?_
                      exact ⟨x51_26.2 == 40, hE.cut (.cons rfl Subs.nil), hR, H⟩
                    · replace H := M.ite_f hb_34 H
                      refine d_pureg (i := 2) (v := .bool x56_32) #[true, true, true, false, false, false, false, false, false, false, false, false] rfl rfl hT (by kernel_rfl) hE rfl (wanted_none rfl) (fun w => r_bin hE rfl rfl (g_agg eg47) (b_eqlA un47 un5 sz5 qx56_32)) (fun a hE => ?_)
                      refine d_pureg (i := 3) (v := .bool x56_32) #[true, true, true, true, false, false, false, false, false, false, false, false] rfl rfl hT (by kernel_rfl) hE rfl (wanted_none rfl) (fun w => r_move hE rfl) (fun a hE => ?_)
                      have hE := hE.reb 57 x56_32 true hb_33 rfl
                      refine d_pureg (i := 4) (v := .int .i64 x46_22.2) #[true, true, true, true, true, false, false, false, false, false, false, false] rfl rfl hT (by kernel_rfl) hE rfl (wanted_of rfl hE rfl rfl rfl) (fun w => r_move hE rfl) (fun a hE => ?_)
                      refine d_pureg (i := 5) (v := .bool (x46_22.2 == 0)) #[true, true, true, true, true, true, false, false, false, false, false, false] rfl rfl hT (by kernel_rfl) hE rfl (wanted_of rfl hE rfl rfl rfl) (fun w => r_bin hE rfl rfl g_int b_eql) (fun a hE => ?_)
                      refine d_pureg (i := 6) (v := .bool (x46_22.2 == 0)) #[true, true, true, true, true, true, true, false, false, false, false, false] rfl rfl hT (by kernel_rfl) hE rfl (wanted_none rfl) (fun w => r_pick_t hE rfl rfl) (fun a hE => ?_)
                      refine d_pureg (i := 7) (v := .bool (x46_22.2 == 0)) #[true, true, true, true, true, true, true, true, false, false, false, false] rfl rfl hT (by kernel_rfl) hE rfl (wanted_none rfl) (fun w => r_move hE rfl) (fun a hE => ?_)
                      have hE := hE.reb 61 (x46_22.2 == 0) false hb_34 rfl
                      refine d_off (i := 8) #[true, true, true, true, true, true, true, true, true, false, false, false] rfl rfl hT (by kernel_rfl) (unwanted_of rfl hE rfl rfl rfl) (fun a ea => ?_)
                      have hE := Env.put_some hE rfl ea; clear ea
                      refine d_off (i := 9) #[true, true, true, true, true, true, true, true, true, true, false, false] rfl rfl hT (by kernel_rfl) (unwanted_of rfl hE rfl rfl rfl) (fun a ea => ?_)
                      have hE := Env.put_some hE rfl ea; clear ea
                      refine d_pureg (i := 10) (v := .bool false) #[true, true, true, true, true, true, true, true, true, true, true, false] rfl rfl hT (by kernel_rfl) hE rfl (wanted_none rfl) (fun w => r_pick_f hE rfl rfl) (fun a hE => ?_)
                      refine d_pureg (i := 11) (v := .bool false) #[true, true, true, true, true, true, true, true, true, true, true, true] rfl rfl hT (by kernel_rfl) hE rfl (wanted_none rfl) (fun w => r_assign hE rfl) (fun a hE => ?_)
                      refine d_done hT (by kernel_rfl) ?_
                      exact ⟨false, hE.cut (.cons rfl Subs.nil), hR, H⟩
                  · replace H := M.ite_f hb_33 H
                    refine d_pureg (i := 2) (v := .bool x56_32) #[true, true, true, false, false, false, false, false, false, false, false, false] rfl rfl hT (by kernel_rfl) hE rfl (wanted_none rfl) (fun w => r_bin hE rfl rfl (g_agg eg47) (b_eqlA un47 un5 sz5 qx56_32)) (fun a hE => ?_)
                    refine d_pureg (i := 3) (v := .bool x56_32) #[true, true, true, true, false, false, false, false, false, false, false, false] rfl rfl hT (by kernel_rfl) hE rfl (wanted_none rfl) (fun w => r_move hE rfl) (fun a hE => ?_)
                    have hE := hE.reb 57 x56_32 false hb_33 rfl
                    refine d_off (i := 4) #[true, true, true, true, true, false, false, false, false, false, false, false] rfl rfl hT (by kernel_rfl) (unwanted_of rfl hE rfl rfl rfl) (fun a ea => ?_)
                    have hE := Env.put_some hE rfl ea; clear ea
                    refine d_off (i := 5) #[true, true, true, true, true, true, false, false, false, false, false, false] rfl rfl hT (by kernel_rfl) (unwanted_of rfl hE rfl rfl rfl) (fun a ea => ?_)
                    have hE := Env.put_some hE rfl ea; clear ea
                    refine d_pureg (i := 6) (v := .bool false) #[true, true, true, true, true, true, true, false, false, false, false, false] rfl rfl hT (by kernel_rfl) hE rfl (wanted_none rfl) (fun w => r_pick_f hE rfl rfl) (fun a hE => ?_)
                    refine d_pureg (i := 7) (v := .bool false) #[true, true, true, true, true, true, true, true, false, false, false, false] rfl rfl hT (by kernel_rfl) hE rfl (wanted_none rfl) (fun w => r_move hE rfl) (fun a hE => ?_)
                    refine d_off (i := 8) #[true, true, true, true, true, true, true, true, true, false, false, false] rfl rfl hT (by kernel_rfl) (unwanted_of rfl hE rfl rfl rfl) (fun a ea => ?_)
                    have hE := Env.put_some hE rfl ea; clear ea
                    refine d_off (i := 9) #[true, true, true, true, true, true, true, true, true, true, false, false] rfl rfl hT (by kernel_rfl) (unwanted_of rfl hE rfl rfl rfl) (fun a ea => ?_)
                    have hE := Env.put_some hE rfl ea; clear ea
                    refine d_pureg (i := 10) (v := .bool false) #[true, true, true, true, true, true, true, true, true, true, true, false] rfl rfl hT (by kernel_rfl) hE rfl (wanted_none rfl) (fun w => r_pick_f hE rfl rfl) (fun a hE => ?_)
                    refine d_pureg (i := 11) (v := .bool false) #[true, true, true, true, true, true, true, true, true, true, true, true] rfl rfl hT (by kernel_rfl) hE rfl (wanted_none rfl) (fun w => r_assign hE rfl) (fun a hE => ?_)
                    refine d_done hT (by kernel_rfl) ?_
                    exact ⟨false, hE.cut (.cons rfl Subs.nil), hR, H⟩

/-- (*ramble/disk.Disk).Flush -/
def disk_Disk_Flush_l1 (c0_17 : Option Addr) (c20_18 : Addr) (self1 : (Unit) → M (Int)) : (Unit) → M (Int) := fun s => match s with
  | () => do
    let x21_21 ← nxM c20_18
    let x22_22 ← exB x21_21 0
    M.ite x22_22 (do
      let x23_25 ← enM c20_18
      let x24_26 ← exI .i64 x23_25.1
      let x27_27 ← disk_Disk_stay c0_17 x24_26
      self1 ()
      ) (do
      let x29_29 ← nilP c0_17
      let x31_30 ← ldMp ((x29_29).add 2)
      let u_31 ← clM x31_30
      M.pure 0
      )
def disk_Disk_Flush (x0 : Option Addr) : M (Int) := do
  let x7_4 ← disk_Disk_can x0
  M.ite (x7_4 != 0) (do
    M.pure x7_4
    ) (do
    let x12_9 ← disk_Disk_call x0
    M.ite (x12_9 != 0) (do
      M.pure x12_9
      ) (do
      let x17_14 ← nilP x0
      let x19_15 ← ldMp ((x17_14).add 2)
      let x20_16 ← rgM x19_15
      M.loop (disk_Disk_Flush_l1 x0 x20_16) ()
      )
    )
theorem S_disk_Disk_Flush (x0 : Option Addr) : Sound Go.Proofs.Try.prog 23 #[.pointer x0] (fun (r : Int) => .int .i64 r) (disk_Disk_Flush x0) := by
  refine sound_of [(0, .pointer x0)] Go.Proofs.Try.func23 rfl rfl (Nat.le_of_ble_eq_true rfl) (args_of ⟨rfl, trivial⟩) (fun w0 w Q R a hret hE hR H => ?_)
  unfold disk_Disk_Flush at H
  refine w_seq (fun K hK_1 => ?_)
  refine t_region ?_
  refine t_val (v := .int .i64 0) rfl rfl hE rfl (r_assign hE rfl) (fun a hE => ?_)
  refine t_nil ?_
  refine hK_1 _ _ ?_
  refine w_seq (fun K hK_2 => ?_)
  refine w_seq (fun K hK_3 => ?_)
  refine t_region ?_
  refine t_val (v := .pointer x0) rfl rfl hE rfl (r_move hE rfl) (fun a hE => ?_)
  refine t_call hE hR cl_disk_Disk_can rfl (S_disk_Disk_can x0) (M.unbind H) (fun x7_4 a w ea hR H => ?_)
  have hE := Env.put_some hE rfl ea; clear ea
  refine t_val (v := .int .i64 x7_4) rfl rfl hE rfl (r_assign hE rfl) (fun a hE => ?_)
  refine t_nil ?_
  refine hK_3 _ _ ?_
  refine w_seq (fun K hK_5 => ?_)
  refine t_region ?_
  refine t_val (v := .int .i64 x7_4) rfl rfl hE rfl (r_move hE rfl) (fun a hE => ?_)
  refine t_val (v := .bool (x7_4 != 0)) rfl rfl hE rfl (r_bin hE rfl rfl g_int b_neq) (fun a hE => ?_)
  refine t_nil ?_
  refine hK_5 _ _ ?_
  refine w_cond (x7_4 != 0) hE rfl (fun hb => ?_) (fun hb => ?_)
  · replace H := M.ite_t hb H
    refine w_seq (fun K hK_6 => ?_)
    refine t_region ?_
    refine t_val (v := .int .i64 x7_4) rfl rfl hE rfl (r_move hE rfl) (fun a hE => ?_)
    refine t_val (v := .int .i64 x7_4) rfl rfl hE rfl (r_assign hE rfl) (fun a hE => ?_)
    refine t_nil ?_
    refine hK_6 _ _ ?_
    refine w_ret ?_
    exact hret _ _ _ x7_4 _ hE hR (res_run hE rfl (RV.tmp rfl RV.nil)) rfl H
  · replace H := M.ite_f hb H
    refine w_skip ?_
    refine hK_2 _ _ ?_
    refine w_seq (fun K hK_7 => ?_)
    refine w_seq (fun K hK_8 => ?_)
    refine t_region ?_
    refine t_val (v := .pointer x0) rfl rfl hE rfl (r_move hE rfl) (fun a hE => ?_)
    refine t_call hE hR cl_disk_Disk_call rfl (S_disk_Disk_call x0) (M.unbind H) (fun x12_9 a w ea hR H => ?_)
    have hE := Env.put_some hE rfl ea; clear ea
    refine t_val (v := .int .i64 x12_9) rfl rfl hE rfl (r_assign hE rfl) (fun a hE => ?_)
    refine t_nil ?_
    refine hK_8 _ _ ?_
    refine w_seq (fun K hK_10 => ?_)
    refine t_region ?_
    refine t_val (v := .int .i64 x12_9) rfl rfl hE rfl (r_move hE rfl) (fun a hE => ?_)
    refine t_val (v := .bool (x12_9 != 0)) rfl rfl hE rfl (r_bin hE rfl rfl g_int b_neq) (fun a hE => ?_)
    refine t_nil ?_
    refine hK_10 _ _ ?_
    refine w_cond (x12_9 != 0) hE rfl (fun hb => ?_) (fun hb => ?_)
    · replace H := M.ite_t hb H
      refine w_seq (fun K hK_11 => ?_)
      refine t_region ?_
      refine t_val (v := .int .i64 x12_9) rfl rfl hE rfl (r_move hE rfl) (fun a hE => ?_)
      refine t_val (v := .int .i64 x12_9) rfl rfl hE rfl (r_assign hE rfl) (fun a hE => ?_)
      refine t_nil ?_
      refine hK_11 _ _ ?_
      refine w_ret ?_
      exact hret _ _ _ x12_9 _ hE hR (res_run hE rfl (RV.tmp rfl RV.nil)) rfl H
    · replace H := M.ite_f hb H
      refine w_skip ?_
      refine hK_7 _ _ ?_
      refine w_seq (fun K hK_12 => ?_)
      refine w_seq (fun K hK_13 => ?_)
      refine t_region ?_
      refine t_val (v := .pointer x0) rfl rfl hE rfl (r_move hE rfl) (fun a hE => ?_)
      obtain ⟨x17_14, qx17_14, H⟩ := H
      refine t_val (v := .pointer (some x17_14)) rfl rfl hE rfl (r_nilCheck hE (hx_eq rfl (congrArg Value.pointer qx17_14))) (fun a hE => ?_)
      refine t_val (v := .pointer (some ((x17_14).add 2))) rfl rfl hE rfl (r_fieldAddr hE rfl fd66_2) (fun a hE => ?_)
      obtain ⟨x19_15, qx19_15, H⟩ := H
      refine t_val (v := .map x19_15) rfl rfl hE rfl (r_load hE rfl sc64 qx19_15) (fun a hE => ?_)
      obtain ⟨x20_16, qx20_16, H⟩ := H
      refine t_valh (v := .pointer (some x20_16)) rfl rfl hE rfl hR (r_range hE rfl un64 qx20_16) (fun a w hE hR hh => ?_)
      replace H := M.at hh H; clear hh
      refine t_nil ?_
      refine hK_13 _ _ ?_
      refine w_block ?_
      refine l_loop (fun (s : Unit) => (⟨32, []⟩ : Frm)) (fun (s : Unit) => [(0, .pointer x0), (20, .pointer (some x20_16))]) H (hE.cut (.cons rfl (.cons rfl Subs.nil))) hR (fun Y self1 hY_19 s a w hE hR H => ?_)
      cases s
      replace hE : Env (⟨32, []⟩ : Frm) a [(0, .pointer x0), (20, .pointer (some x20_16))] := hE
      replace H : (disk_Disk_Flush_l1 x0 x20_16 self1 ()).wp w.heap Q := H
      unfold disk_Disk_Flush_l1 at H
      refine w_seq (fun K hK_20 => ?_)
      refine t_region ?_
      refine t_ex (fun x21_21 => x21_21) rfl rfl hR (M.unbind H) (fun Q H => nx_run hE rfl H) (fun x21_21 a w ea hR H => ?_)
      have hE := Env.put_some hE rfl ea; clear ea
      obtain ⟨x22_22, qx22_22, H⟩ := H
      refine t_val (v := .bool x22_22) rfl rfl hE rfl (ex_run hE rfl qx22_22) (fun a hE => ?_)
      refine t_nil ?_
      refine hK_20 _ _ ?_
      refine w_seq (fun K hK_23 => ?_)
      refine w_cond x22_22 hE rfl (fun hb => ?_) (fun hb => ?_)
      · replace H := M.ite_t hb H
        refine w_skip ?_
        refine hK_23 _ _ ?_
        refine w_block ?_
        refine w_seq (fun K hK_24 => ?_)
        refine t_region ?_
        obtain ⟨x23_25, qx23_25, H⟩ := H
        refine t_val (v := .tuple #[x23_25.1, x23_25.2]) rfl rfl hE rfl (r_entry hE rfl qx23_25) (fun a hE => ?_)
        obtain ⟨x24_26, qx24_26, H⟩ := H
        refine t_val (v := .int .i64 x24_26) rfl rfl hE rfl (r_extract hE rfl (congrArg some qx24_26)) (fun a hE => ?_)
        refine t_val (v := .int .i64 x24_26) rfl rfl hE rfl (r_assign hE rfl) (fun a hE => ?_)
        refine t_nil ?_
        refine hK_24 _ _ ?_
        refine t_region ?_
        refine t_val (v := .pointer x0) rfl rfl hE rfl (r_move hE rfl) (fun a hE => ?_)
        refine t_val (v := .int .i64 x24_26) rfl rfl hE rfl (r_move hE rfl) (fun a hE => ?_)
        refine t_call hE hR cl_disk_Disk_stay rfl (S_disk_Disk_stay x0 x24_26) (M.unbind H) (fun x27_27 a w ea hR H => ?_)
        have hE := Env.put_some hE rfl ea; clear ea
        refine t_nil ?_
        exact hY_19 () _ _ (hE.cut (.cons rfl (.cons rfl Subs.nil))) hR H
      · replace H := M.ite_f hb H
        refine w_exit ?_
        refine Xu.same ?_
        refine hK_12 _ _ ?_
        refine w_seq (fun K hK_28 => ?_)
        refine t_region ?_
        refine t_val (v := .pointer x0) rfl rfl hE rfl (r_move hE rfl) (fun a hE => ?_)
        obtain ⟨x29_29, qx29_29, H⟩ := H
        refine t_val (v := .pointer (some x29_29)) rfl rfl hE rfl (r_nilCheck hE (hx_eq rfl (congrArg Value.pointer qx29_29))) (fun a hE => ?_)
        refine t_val (v := .pointer (some ((x29_29).add 2))) rfl rfl hE rfl (r_fieldAddr hE rfl fd66_2) (fun a hE => ?_)
        obtain ⟨x31_30, qx31_30, H⟩ := H
        refine t_val (v := .map x31_30) rfl rfl hE rfl (r_load hE rfl sc64 qx31_30) (fun a hE => ?_)
        obtain ⟨u_31, qu_31, H⟩ := H
        refine t_valnh (v := .tuple #[]) rfl rfl hE hR (r_clearM hE rfl un64 qu_31) (fun a w hE hR hh => ?_)
        replace H := M.at hh H; clear hh
        refine t_nil ?_
        refine hK_28 _ _ ?_
        refine w_seq (fun K hK_32 => ?_)
        refine t_region ?_
        refine t_val (v := .int .i64 0) rfl rfl hE rfl (r_assign hE rfl) (fun a hE => ?_)
        refine t_nil ?_
        refine hK_32 _ _ ?_
        refine w_ret ?_
        exact hret _ _ _ 0 _ hE hR (res_run hE rfl (RV.tmp rfl RV.nil)) rfl H

/-- slices.Index[[]int,int] -/
def slices_Index_slint_int_l1 (c0_5 : Sl) (c1_6 : Int) (c7_7 : Int) (self1 : (Int) → M (Int)) : (Int) → M (Int) := fun s => match s with
  | x8_4 => do
    M.ite (decide (x8_4 < c7_7)) (do
      let x14_14 ← ixL c0_5 x8_4 1
      let x15_15 ← ldI .i64 x14_14
      M.ite (c1_6 == x15_15) (do
        M.pure x8_4
        ) (do
        self1 (IntKind.wrap .i64 (x8_4 + 1))
        )
      ) (do
      M.pure (-1)
      )
def slices_Index_slint_int (x0 : Sl) (x1 : Int) : M (Int) := do
  M.loop (slices_Index_slint_int_l1 x0 x1 (x0.len : Int)) 0
theorem S_slices_Index_slint_int (x0 : Sl) (x1 : Int) : Sound Go.Proofs.Try.prog 58 #[(x0 : Sl).v, .int .i64 x1] (fun (r : Int) => .int .i64 r) (slices_Index_slint_int x0 x1) := by
  refine sound_of [(0, (x0 : Sl).v), (1, .int .i64 x1)] Go.Proofs.Try.func58 rfl rfl (Nat.le_of_ble_eq_true rfl) (args_of ⟨rfl, rfl, trivial⟩) (fun w0 w Q R a hret hE hR H => ?_)
  unfold slices_Index_slint_int at H
  refine w_seq (fun K hK_1 => ?_)
  refine t_region ?_
  refine t_val (v := .int .i64 0) rfl rfl hE rfl (r_assign hE rfl) (fun a hE => ?_)
  refine t_nil ?_
  refine hK_1 _ _ ?_
  refine w_seq (fun K hK_2 => ?_)
  refine w_seq (fun K hK_3 => ?_)
  refine t_region ?_
  refine t_val (v := (x0 : Sl).v) rfl rfl hE rfl (r_move hE rfl) (fun a hE => ?_)
  refine t_val (v := .int .i64 (x0.len : Int)) rfl rfl hE rfl (r_len hE rfl 3 un54) (fun a hE => ?_)
  refine t_val (v := .int .i64 0) rfl rfl hE rfl (r_move hE rfl) (fun a hE => ?_)
  refine t_nil ?_
  refine hK_3 _ _ ?_
  refine w_block ?_
  refine l_loop (fun (s : Int) => (⟨19, []⟩ : Frm)) (fun (s : Int) => [(0, (x0 : Sl).v), (1, .int .i64 x1), (7, .int .i64 (x0.len : Int)), (8, .int .i64 s)]) H (hE.cut (.cons rfl (.cons rfl (.cons rfl (.cons rfl Subs.nil))))) hR (fun Y self1 hY_8 x8_4 a w hE hR H => ?_)
  replace hE : Env (⟨19, []⟩ : Frm) a [(0, (x0 : Sl).v), (1, .int .i64 x1), (7, .int .i64 (x0.len : Int)), (8, .int .i64 x8_4)] := hE
  replace H : (slices_Index_slint_int_l1 x0 x1 (x0.len : Int) self1 x8_4).wp w.heap Q := H
  unfold slices_Index_slint_int_l1 at H
  refine w_seq (fun K hK_9 => ?_)
  refine t_region ?_
  refine t_val (v := .bool (decide (x8_4 < (x0.len : Int)))) rfl rfl hE rfl (r_bin hE rfl rfl g_int b_lss) (fun a hE => ?_)
  refine t_nil ?_
  refine hK_9 _ _ ?_
  refine w_seq (fun K hK_10 => ?_)
  refine w_cond (decide (x8_4 < (x0.len : Int))) hE rfl (fun hb => ?_) (fun hb => ?_)
  · replace H := M.ite_t hb H
    refine w_skip ?_
    refine hK_10 _ _ ?_
    refine w_seq (fun K hK_11 => ?_)
    refine w_block ?_
    refine w_seq (fun K hK_12 => ?_)
    refine t_region ?_
    refine t_val (v := .int .i64 x8_4) rfl rfl hE rfl (r_move hE rfl) (fun a hE => ?_)
    refine t_val (v := .int .i64 x8_4) rfl rfl hE rfl (r_assign hE rfl) (fun a hE => ?_)
    refine t_nil ?_
    refine hK_12 _ _ ?_
    refine w_seq (fun K hK_13 => ?_)
    refine t_region ?_
    refine t_val (v := .int .i64 x1) rfl rfl hE rfl (r_move hE rfl) (fun a hE => ?_)
    refine t_val (v := (x0 : Sl).v) rfl rfl hE rfl (r_move hE rfl) (fun a hE => ?_)
    refine t_val (v := .int .i64 x8_4) rfl rfl hE rfl (r_move hE rfl) (fun a hE => ?_)
    obtain ⟨x14_14, qx14_14, H⟩ := H
    refine t_val (v := .pointer (some x14_14)) rfl rfl hE rfl (r_indexAddrL hE rfl rfl un54 sz3 qx14_14) (fun a hE => ?_)
    obtain ⟨x15_15, qx15_15, H⟩ := H
    refine t_val (v := .int .i64 x15_15) rfl rfl hE rfl (r_load hE rfl sc3 qx15_15) (fun a hE => ?_)
    refine t_val (v := .bool (x1 == x15_15)) rfl rfl hE rfl (r_bin hE rfl rfl g_int b_eql) (fun a hE => ?_)
    refine t_nil ?_
    refine hK_13 _ _ ?_
    refine w_cond (x1 == x15_15) hE rfl (fun hb => ?_) (fun hb => ?_)
    · replace H := M.ite_t hb H
      refine w_seq (fun K hK_16 => ?_)
      refine t_region ?_
      refine t_val (v := .int .i64 x8_4) rfl rfl hE rfl (r_move hE rfl) (fun a hE => ?_)
      refine t_val (v := .int .i64 x8_4) rfl rfl hE rfl (r_assign hE rfl) (fun a hE => ?_)
      refine t_nil ?_
      refine hK_16 _ _ ?_
      refine w_ret ?_
      exact hret _ _ _ x8_4 _ hE hR (res_run hE rfl (RV.tmp rfl RV.nil)) rfl H
    · replace H := M.ite_f hb H
      refine w_skip ?_
      refine hK_11 _ _ ?_
      refine t_region ?_
      refine t_val (v := .int .i64 (IntKind.wrap .i64 (x8_4 + 1))) rfl rfl hE rfl (r_bin hE rfl rfl g_int b_add) (fun a hE => ?_)
      refine t_val (v := .int .i64 (IntKind.wrap .i64 (x8_4 + 1))) rfl rfl hE rfl (r_move hE rfl) (fun a hE => ?_)
      refine t_nil ?_
      exact hY_8 (IntKind.wrap .i64 (x8_4 + 1)) _ _ (hE.cut (.cons rfl (.cons rfl (.cons rfl (.cons rfl Subs.nil))))) hR H
  · replace H := M.ite_f hb H
    refine w_exit ?_
    refine Xu.same ?_
    refine hK_2 _ _ ?_
    refine w_seq (fun K hK_17 => ?_)
    refine t_region ?_
    refine t_val (v := .int .i64 (-1)) rfl rfl hE rfl (r_assign hE rfl) (fun a hE => ?_)
    refine t_nil ?_
    refine hK_17 _ _ ?_
    refine w_ret ?_
    exact hret _ _ _ (-1) _ hE hR (res_run hE rfl (RV.tmp rfl RV.nil)) rfl H

/-- slices.Contains[[]int,int] -/
def slices_Contains_slint_int (x0 : Sl) (x1 : Int) : M (Bool) := do
  let x7_3 ← slices_Index_slint_int x0 x1
  M.pure (decide (x7_3 ≥ 0))
theorem S_slices_Contains_slint_int (x0 : Sl) (x1 : Int) : Sound Go.Proofs.Try.prog 28 #[(x0 : Sl).v, .int .i64 x1] (fun (r : Bool) => .bool r) (slices_Contains_slint_int x0 x1) := by
  refine sound_of [(0, (x0 : Sl).v), (1, .int .i64 x1)] Go.Proofs.Try.func28 rfl rfl (Nat.le_of_ble_eq_true rfl) (args_of ⟨rfl, rfl, trivial⟩) (fun w0 w Q R a hret hE hR H => ?_)
  unfold slices_Contains_slint_int at H
  refine w_seq (fun K hK_1 => ?_)
  refine t_region ?_
  refine t_val (v := .bool false) rfl rfl hE rfl (r_assign hE rfl) (fun a hE => ?_)
  refine t_nil ?_
  refine hK_1 _ _ ?_
  refine w_seq (fun K hK_2 => ?_)
  refine t_region ?_
  refine t_val (v := (x0 : Sl).v) rfl rfl hE rfl (r_move hE rfl) (fun a hE => ?_)
  refine t_val (v := .int .i64 x1) rfl rfl hE rfl (r_move hE rfl) (fun a hE => ?_)
  refine t_call hE hR cl_slices_Index_slint_int rfl (S_slices_Index_slint_int x0 x1) (M.unbind H) (fun x7_3 a w ea hR H => ?_)
  have hE := Env.put_some hE rfl ea; clear ea
  refine t_val (v := .bool (decide (x7_3 ≥ 0))) rfl rfl hE rfl (r_bin hE rfl rfl g_int b_geq) (fun a hE => ?_)
  refine t_val (v := .bool (decide (x7_3 ≥ 0))) rfl rfl hE rfl (r_assign hE rfl) (fun a hE => ?_)
  refine t_nil ?_
  refine hK_2 _ _ ?_
  refine w_ret ?_
  exact hret _ _ _ (decide (x7_3 ≥ 0)) _ hE hR (res_run hE rfl (RV.tmp rfl RV.nil)) rfl H

end Gx
