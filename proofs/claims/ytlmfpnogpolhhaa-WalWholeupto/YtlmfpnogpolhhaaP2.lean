/- Printed by program: Go functions as Lean programs, each tied to its code. No condition. -/
import Derived.Test.YtlmfpnogpolhhaaP0
import Derived.Test.YtlmfpnogpolhhaaP1
import Derived.Test.YtlmfpnogpolhhaaProg
import Derived.KernelRfl
import Derived.Shelf.Sort.Plain
import Derived.Shelf.Slices.In.SortNone
set_option linter.unusedVariables false
set_option linter.unusedSimpArgs false
namespace Gx
open Go
abbrev fn_maps_Keys_map_int_api_Sector_int_api_Sector_1 : Nat := 73
abbrev fn_ramblelaw06_WalWhole_1 : Nat := 37
abbrev fn_slices_Chunk_slbyte_byte_1 : Nat := 76
abbrev ty_2_wal_Log : Nat := 89
abbrev ty_api_Frame : Nat := 86
abbrev ty_api_Sector : Nat := 47
abbrev ty_bool : Nat := 4
abbrev ty_disk_Disk : Nat := 66
abbrev ty_int : Nat := 3
abbrev ty_map_int_api_Sector : Nat := 64
abbrev ty_ramblelaw06_Op : Nat := 74
abbrev ty_sl_int : Nat := 54
abbrev ty_sl_sl_sl_uint8 : Nat := 22
abbrev ty_sl_sl_uint8 : Nat := 32
abbrev ty_sl_uint8 : Nat := 30
abbrev ty_uint8 : Nat := 5
abbrev ty_wal_Log : Nat := 40
theorem mo : Go.Proofs.Try.prog.follows .mixedOrders = true := by kernel_rfl
theorem un106 : Go.Proofs.Try.prog.underlying 106 = some (.int .u64) := by kernel_rfl
theorem un2 : Go.Proofs.Try.prog.underlying 2 = some (.int .i64) := by kernel_rfl
theorem un22 : Go.Proofs.Try.prog.underlying 22 = some (.slice 32) := by kernel_rfl
theorem un23 : Go.Proofs.Try.prog.underlying 23 = some (.pointer 66) := by kernel_rfl
theorem un27 : Go.Proofs.Try.prog.underlying 27 = some (.pointer 40) := by kernel_rfl
theorem un3 : Go.Proofs.Try.prog.underlying 3 = some (.int .i64) := by kernel_rfl
theorem un30 : Go.Proofs.Try.prog.underlying 30 = some (.slice 5) := by kernel_rfl
theorem un32 : Go.Proofs.Try.prog.underlying 32 = some (.slice 30) := by kernel_rfl
theorem un45 : Go.Proofs.Try.prog.underlying 45 = some (.slice 4) := by kernel_rfl
theorem un47 : Go.Proofs.Try.prog.underlying 47 = some (.array 128 5) := by kernel_rfl
theorem un49 : Go.Proofs.Try.prog.underlying 49 = some (.int .u32) := by kernel_rfl
theorem un5 : Go.Proofs.Try.prog.underlying 5 = some (.int .u8) := by kernel_rfl
theorem un54 : Go.Proofs.Try.prog.underlying 54 = some (.slice 3) := by kernel_rfl
theorem un63 : Go.Proofs.Try.prog.underlying 63 = some (.slice 47) := by kernel_rfl
theorem un64 : Go.Proofs.Try.prog.underlying 64 = some (.map 3 47) := by kernel_rfl
theorem un71 : Go.Proofs.Try.prog.underlying 71 = some (.slice 74) := by kernel_rfl
theorem un72 : Go.Proofs.Try.prog.underlying 72 = some (.slice 22) := by kernel_rfl
theorem un89 : Go.Proofs.Try.prog.underlying 89 = some (.array 2 40) := by kernel_rfl
theorem un9 : Go.Proofs.Try.prog.underlying 9 = some (.string) := by kernel_rfl
theorem zr22 : ((Go.Proofs.Try.prog.info? 22).bind (·.zero)) = some (.slice none 0 0) := by kernel_rfl
theorem zr3 : ((Go.Proofs.Try.prog.info? 3).bind (·.zero)) = some (.int .i64 0) := by kernel_rfl
theorem zr30 : ((Go.Proofs.Try.prog.info? 30).bind (·.zero)) = some (.slice none 0 0) := by kernel_rfl
theorem zr32 : ((Go.Proofs.Try.prog.info? 32).bind (·.zero)) = some (.slice none 0 0) := by kernel_rfl
theorem zr4 : ((Go.Proofs.Try.prog.info? 4).bind (·.zero)) = some (.bool false) := by kernel_rfl
theorem zr40 : ((Go.Proofs.Try.prog.info? 40).bind (·.zero)) = some (.agg (#[.pointer none, .int .i64 0, .slice none 0 0, .int .i64 0, .int .i64 0, .bool false, .bool false] : Array Value)) := by kernel_rfl
theorem zr47 : ((Go.Proofs.Try.prog.info? 47).bind (·.zero)) = some (.agg (Array.replicate 128 (.int .u8 0) : Array Value)) := by kernel_rfl
theorem zr5 : ((Go.Proofs.Try.prog.info? 5).bind (·.zero)) = some (.int .u8 0) := by kernel_rfl
theorem zr66 : ((Go.Proofs.Try.prog.info? 66).bind (·.zero)) = some (.agg (#[.slice none 0 0, .slice none 0 0, .map none, .bool false, .int .i64 0, .int .i64 0] : Array Value)) := by kernel_rfl
theorem zr74 : ((Go.Proofs.Try.prog.info? 74).bind (·.zero)) = some (.agg (#[.int .i64 0, .slice none 0 0, .int .i64 0, .int .i64 0, .slice none 0 0, .int .u32 0] : Array Value)) := by kernel_rfl
theorem zr86 : ((Go.Proofs.Try.prog.info? 86).bind (·.zero)) = some (.agg (#[.int .i64 0, .int .i64 0, .slice none 0 0] : Array Value)) := by kernel_rfl
theorem zr89 : ((Go.Proofs.Try.prog.info? 89).bind (·.zero)) = some (.agg (#[.pointer none, .int .i64 0, .slice none 0 0, .int .i64 0, .int .i64 0, .bool false, .bool false, .pointer none, .int .i64 0, .slice none 0 0, .int .i64 0, .int .i64 0, .bool false, .bool false] : Array Value)) := by kernel_rfl
theorem ag47 : agB Go.Proofs.Try.prog 47 128 = true := by kernel_rfl
theorem ag74 : agB Go.Proofs.Try.prog 74 6 = true := by kernel_rfl
theorem ag86 : agB Go.Proofs.Try.prog 86 3 = true := by kernel_rfl
theorem ag89 : agB Go.Proofs.Try.prog 89 14 = true := by kernel_rfl
theorem ap22 : apB Go.Proofs.Try.prog 22 32 1 24 (#[.slice none 0 0] : Array Value) := ⟨un22, ap_info (by kernel_rfl)⟩
theorem ap30 : apB Go.Proofs.Try.prog 30 5 1 1 (#[.int .u8 0] : Array Value) := ⟨un30, ap_info (by kernel_rfl)⟩
theorem ap32 : apB Go.Proofs.Try.prog 32 30 1 24 (#[.slice none 0 0] : Array Value) := ⟨un32, ap_info (by kernel_rfl)⟩
theorem ap45 : apB Go.Proofs.Try.prog 45 4 1 1 (#[.bool false] : Array Value) := ⟨un45, ap_info (by kernel_rfl)⟩
theorem ap54 : apB Go.Proofs.Try.prog 54 3 1 8 (#[.int .i64 0] : Array Value) := ⟨un54, ap_info (by kernel_rfl)⟩
theorem ap63 : apB Go.Proofs.Try.prog 63 47 128 128 (Array.replicate 128 (.int .u8 0) : Array Value) := ⟨un63, ap_info (by kernel_rfl)⟩
theorem ap72 : apB Go.Proofs.Try.prog 72 22 1 24 (#[.slice none 0 0] : Array Value) := ⟨un72, ap_info (by kernel_rfl)⟩
theorem bd47 : ∀ w, (Instr.build 47 #[]).run Go.Proofs.Try.prog w = .ok (.agg (Array.replicate 128 (.int .u8 0) : Array Value)) w := fun w => by kernel_rfl
theorem bd86 : ∀ w, (Instr.build 86 #[]).run Go.Proofs.Try.prog w = .ok (.agg (#[.int .i64 0, .int .i64 0, .slice none 0 0] : Array Value)) w := fun w => by kernel_rfl
theorem cl_bytes_Equal : Callee? Go.Proofs.Try.prog 40 := callee_of Go.Proofs.Try.func40 (by kernel_rfl) rfl
theorem cl_disk_Disk_Crash : Callee? Go.Proofs.Try.prog 25 := callee_of Go.Proofs.Try.func25 (by kernel_rfl) rfl
theorem cl_disk_Disk_Dirty : Callee? Go.Proofs.Try.prog 24 := callee_of Go.Proofs.Try.func24 (by kernel_rfl) rfl
theorem cl_disk_Disk_Down : Callee? Go.Proofs.Try.prog 31 := callee_of Go.Proofs.Try.func31 (by kernel_rfl) rfl
theorem cl_disk_Disk_Flush : Callee? Go.Proofs.Try.prog 23 := callee_of Go.Proofs.Try.func23 (by kernel_rfl) rfl
theorem cl_disk_Disk_Read : Callee? Go.Proofs.Try.prog 27 := callee_of Go.Proofs.Try.func27 (by kernel_rfl) rfl
theorem cl_disk_Disk_Sectors : Callee? Go.Proofs.Try.prog 33 := callee_of Go.Proofs.Try.func33 (by kernel_rfl) rfl
theorem cl_disk_Disk_SetFuse : Callee? Go.Proofs.Try.prog 29 := callee_of Go.Proofs.Try.func29 (by kernel_rfl) rfl
theorem cl_disk_Disk_Start : Callee? Go.Proofs.Try.prog 26 := callee_of Go.Proofs.Try.func26 (by kernel_rfl) rfl
theorem cl_disk_Disk_Write : Callee? Go.Proofs.Try.prog 21 := callee_of Go.Proofs.Try.func21 (by kernel_rfl) rfl
theorem cl_disk_Disk_call : Callee? Go.Proofs.Try.prog 52 := callee_of Go.Proofs.Try.func52 (by kernel_rfl) rfl
theorem cl_disk_Disk_can : Callee? Go.Proofs.Try.prog 50 := callee_of Go.Proofs.Try.func50 (by kernel_rfl) rfl
theorem cl_disk_Disk_decide : Callee? Go.Proofs.Try.prog 57 := callee_of Go.Proofs.Try.func57 (by kernel_rfl) rfl
theorem cl_disk_Disk_none : Callee? Go.Proofs.Try.prog 54 := callee_of Go.Proofs.Try.func54 (by kernel_rfl) rfl
theorem cl_disk_Disk_stay : Callee? Go.Proofs.Try.prog 53 := callee_of Go.Proofs.Try.func53 (by kernel_rfl) rfl
theorem cl_disk_Disk_there : Callee? Go.Proofs.Try.prog 51 := callee_of Go.Proofs.Try.func51 (by kernel_rfl) rfl
theorem cl_disk_New : Callee? Go.Proofs.Try.prog 9 := callee_of Go.Proofs.Try.func9 (by kernel_rfl) rfl
theorem cl_maps_Keys_map_int_api_Sector_int_api_Sector : Callee? Go.Proofs.Try.prog 56 := callee_of Go.Proofs.Try.func56 (by kernel_rfl) rfl
theorem cl_maps_Keys_map_int_api_Sector_int_api_Sector_1 : Callee? Go.Proofs.Try.prog 73 := callee_of Go.Proofs.Try.func73 (by kernel_rfl) rfl
theorem cl_num_Put : Callee? Go.Proofs.Try.prog 63 := callee_of Go.Proofs.Try.func63 (by kernel_rfl) rfl
theorem cl_num_Take : Callee? Go.Proofs.Try.prog 68 := callee_of Go.Proofs.Try.func68 (by kernel_rfl) rfl
theorem cl_ramblelaw06_WalWhole_1 : Callee? Go.Proofs.Try.prog 37 := callee_of Go.Proofs.Try.func37 (by kernel_rfl) rfl
theorem cl_ramblelaw06_begun : Callee? Go.Proofs.Try.prog 11 := callee_of Go.Proofs.Try.func11 (by kernel_rfl) rfl
theorem cl_rambleref01_Put : Callee? Go.Proofs.Try.prog 70 := callee_of Go.Proofs.Try.func70 (by kernel_rfl) rfl
theorem cl_rambleref06_Same : Callee? Go.Proofs.Try.prog 15 := callee_of Go.Proofs.Try.func15 (by kernel_rfl) rfl
theorem cl_rambleref06_commit : Callee? Go.Proofs.Try.prog 49 := callee_of Go.Proofs.Try.func49 (by kernel_rfl) rfl
theorem cl_sector_Cut : Callee? Go.Proofs.Try.prog 42 := callee_of Go.Proofs.Try.func42 (by kernel_rfl) rfl
theorem cl_sector_Open : Callee? Go.Proofs.Try.prog 67 := callee_of Go.Proofs.Try.func67 (by kernel_rfl) rfl
theorem cl_sector_Put : Callee? Go.Proofs.Try.prog 46 := callee_of Go.Proofs.Try.func46 (by kernel_rfl) rfl
theorem cl_sector_Seal : Callee? Go.Proofs.Try.prog 66 := callee_of Go.Proofs.Try.func66 (by kernel_rfl) rfl
theorem cl_sector_Sum : Callee? Go.Proofs.Try.prog 78 := callee_of Go.Proofs.Try.func78 (by kernel_rfl) rfl
theorem cl_sector_big : Callee? Go.Proofs.Try.prog 77 := callee_of Go.Proofs.Try.func77 (by kernel_rfl) rfl
theorem cl_slices_AppendSeq_slint_int : Callee? Go.Proofs.Try.prog 79 := callee_of Go.Proofs.Try.func79 (by kernel_rfl) rfl
theorem cl_slices_AppendSeq_slslbyte_slbyte : Callee? Go.Proofs.Try.prog 75 := callee_of Go.Proofs.Try.func75 (by kernel_rfl) rfl
theorem cl_slices_Chunk_slbyte_byte : Callee? Go.Proofs.Try.prog 65 := callee_of Go.Proofs.Try.func65 (by kernel_rfl) rfl
theorem cl_slices_Chunk_slbyte_byte_1 : Callee? Go.Proofs.Try.prog 76 := callee_of Go.Proofs.Try.func76 (by kernel_rfl) rfl
theorem cl_slices_Clone_slbyte_byte : Callee? Go.Proofs.Try.prog 38 := callee_of Go.Proofs.Try.func38 (by kernel_rfl) rfl
theorem cl_slices_Clone_slslslbyte_slslbyte : Callee? Go.Proofs.Try.prog 35 := callee_of Go.Proofs.Try.func35 (by kernel_rfl) rfl
theorem cl_slices_Collect_int : Callee? Go.Proofs.Try.prog 71 := callee_of Go.Proofs.Try.func71 (by kernel_rfl) rfl
theorem cl_slices_Collect_slbyte : Callee? Go.Proofs.Try.prog 64 := callee_of Go.Proofs.Try.func64 (by kernel_rfl) rfl
theorem cl_slices_ContainsFunc_slslslslbyte_slslslbyte : Callee? Go.Proofs.Try.prog 36 := callee_of Go.Proofs.Try.func36 (by kernel_rfl) rfl
theorem cl_slices_IndexFunc_slslslslbyte_slslslbyte : Callee? Go.Proofs.Try.prog 62 := callee_of Go.Proofs.Try.func62 (by kernel_rfl) rfl
theorem cl_slices_Sort_slint_int : Callee? Go.Proofs.Try.prog 72 := callee_of Go.Proofs.Try.func72 (by kernel_rfl) rfl
theorem cl_slices_Sorted_int : Callee? Go.Proofs.Try.prog 55 := callee_of Go.Proofs.Try.func55 (by kernel_rfl) rfl
theorem cl_wal_Format : Callee? Go.Proofs.Try.prog 10 := callee_of Go.Proofs.Try.func10 (by kernel_rfl) rfl
theorem cl_wal_Log_Append : Callee? Go.Proofs.Try.prog 12 := callee_of Go.Proofs.Try.func12 (by kernel_rfl) rfl
theorem cl_wal_Log_Epoch : Callee? Go.Proofs.Try.prog 16 := callee_of Go.Proofs.Try.func16 (by kernel_rfl) rfl
theorem cl_wal_Log_Reset : Callee? Go.Proofs.Try.prog 13 := callee_of Go.Proofs.Try.func13 (by kernel_rfl) rfl
theorem cl_wal_Log_Used : Callee? Go.Proofs.Try.prog 18 := callee_of Go.Proofs.Try.func18 (by kernel_rfl) rfl
theorem cl_wal_Log_at : Callee? Go.Proofs.Try.prog 44 := callee_of Go.Proofs.Try.func44 (by kernel_rfl) rfl
theorem cl_wal_Log_can : Callee? Go.Proofs.Try.prog 41 := callee_of Go.Proofs.Try.func41 (by kernel_rfl) rfl
theorem cl_wal_Log_head : Callee? Go.Proofs.Try.prog 39 := callee_of Go.Proofs.Try.func39 (by kernel_rfl) rfl
theorem cl_wal_Log_next : Callee? Go.Proofs.Try.prog 48 := callee_of Go.Proofs.Try.func48 (by kernel_rfl) rfl
theorem cl_wal_Log_told : Callee? Go.Proofs.Try.prog 45 := callee_of Go.Proofs.Try.func45 (by kernel_rfl) rfl
theorem cl_wal_Open : Callee? Go.Proofs.Try.prog 14 := callee_of Go.Proofs.Try.func14 (by kernel_rfl) rfl
theorem cl_wal_heads : Callee? Go.Proofs.Try.prog 47 := callee_of Go.Proofs.Try.func47 (by kernel_rfl) rfl
theorem cl_wal_put : Callee? Go.Proofs.Try.prog 43 := callee_of Go.Proofs.Try.func43 (by kernel_rfl) rfl
theorem cl_wal_records : Callee? Go.Proofs.Try.prog 69 := callee_of Go.Proofs.Try.func69 (by kernel_rfl) rfl
theorem eg47 : Go.Proofs.Try.prog.eqGuardType Go.Proofs.Try.prog.depth 47 = false := by kernel_rfl
theorem fd40_0 : fdOff Go.Proofs.Try.prog 40 0 = some 0 := by kernel_rfl
theorem fd40_1 : fdOff Go.Proofs.Try.prog 40 1 = some 1 := by kernel_rfl
theorem fd40_2 : fdOff Go.Proofs.Try.prog 40 2 = some 2 := by kernel_rfl
theorem fd40_3 : fdOff Go.Proofs.Try.prog 40 3 = some 3 := by kernel_rfl
theorem fd40_4 : fdOff Go.Proofs.Try.prog 40 4 = some 4 := by kernel_rfl
theorem fd40_5 : fdOff Go.Proofs.Try.prog 40 5 = some 5 := by kernel_rfl
theorem fd40_6 : fdOff Go.Proofs.Try.prog 40 6 = some 6 := by kernel_rfl
theorem fd66_0 : fdOff Go.Proofs.Try.prog 66 0 = some 0 := by kernel_rfl
theorem fd66_1 : fdOff Go.Proofs.Try.prog 66 1 = some 1 := by kernel_rfl
theorem fd66_2 : fdOff Go.Proofs.Try.prog 66 2 = some 2 := by kernel_rfl
theorem fd66_3 : fdOff Go.Proofs.Try.prog 66 3 = some 3 := by kernel_rfl
theorem fd66_4 : fdOff Go.Proofs.Try.prog 66 4 = some 4 := by kernel_rfl
theorem fd66_5 : fdOff Go.Proofs.Try.prog 66 5 = some 5 := by kernel_rfl
theorem fd74_0 : fdOff Go.Proofs.Try.prog 74 0 = some 0 := by kernel_rfl
theorem fd74_1 : fdOff Go.Proofs.Try.prog 74 1 = some 1 := by kernel_rfl
theorem fd86_0 : fdOff Go.Proofs.Try.prog 86 0 = some 0 := by kernel_rfl
theorem fd86_1 : fdOff Go.Proofs.Try.prog 86 1 = some 1 := by kernel_rfl
theorem fd86_2 : fdOff Go.Proofs.Try.prog 86 2 = some 2 := by kernel_rfl
theorem pl40 : placesOf Go.Proofs.Try.prog 40 = some [(0, 1), (1, 1), (2, 1), (3, 1), (4, 1), (5, 1), (6, 1)] := by kernel_rfl
theorem pl66 : placesOf Go.Proofs.Try.prog 66 = some [(0, 1), (1, 1), (2, 1), (3, 1), (4, 1), (5, 1)] := by kernel_rfl
theorem pl86 : placesOf Go.Proofs.Try.prog 86 = some [(0, 1), (1, 1), (2, 1)] := by kernel_rfl
theorem sc2 : scB Go.Proofs.Try.prog 2 = true := by kernel_rfl
theorem sc22 : scB Go.Proofs.Try.prog 22 = true := by kernel_rfl
theorem sc23 : scB Go.Proofs.Try.prog 23 = true := by kernel_rfl
theorem sc3 : scB Go.Proofs.Try.prog 3 = true := by kernel_rfl
theorem sc30 : scB Go.Proofs.Try.prog 30 = true := by kernel_rfl
theorem sc32 : scB Go.Proofs.Try.prog 32 = true := by kernel_rfl
theorem sc4 : scB Go.Proofs.Try.prog 4 = true := by kernel_rfl
theorem sc45 : scB Go.Proofs.Try.prog 45 = true := by kernel_rfl
theorem sc5 : scB Go.Proofs.Try.prog 5 = true := by kernel_rfl
theorem sc54 : scB Go.Proofs.Try.prog 54 = true := by kernel_rfl
theorem sc63 : scB Go.Proofs.Try.prog 63 = true := by kernel_rfl
theorem sc64 : scB Go.Proofs.Try.prog 64 = true := by kernel_rfl
theorem sz2 : szB Go.Proofs.Try.prog 2 1 = true := by kernel_rfl
theorem sz22 : szB Go.Proofs.Try.prog 22 1 = true := by kernel_rfl
theorem sz3 : szB Go.Proofs.Try.prog 3 1 = true := by kernel_rfl
theorem sz30 : szB Go.Proofs.Try.prog 30 1 = true := by kernel_rfl
theorem sz32 : szB Go.Proofs.Try.prog 32 1 = true := by kernel_rfl
theorem sz4 : szB Go.Proofs.Try.prog 4 1 = true := by kernel_rfl
theorem sz40 : szB Go.Proofs.Try.prog 40 7 = true := by kernel_rfl
theorem sz47 : szB Go.Proofs.Try.prog 47 128 = true := by kernel_rfl
theorem sz5 : szB Go.Proofs.Try.prog 5 1 = true := by kernel_rfl
theorem sz54 : szB Go.Proofs.Try.prog 54 1 = true := by kernel_rfl
theorem sz74 : szB Go.Proofs.Try.prog 74 6 = true := by kernel_rfl
theorem sz86 : szB Go.Proofs.Try.prog 86 3 = true := by kernel_rfl
theorem sz89 : szB Go.Proofs.Try.prog 89 14 = true := by kernel_rfl
end Gx
namespace Gx
open Go Go.Proofs Go.Shelf Go.Sort Go.RowKit
set_option linter.unusedVariables false
set_option linter.unusedSimpArgs false
set_option maxRecDepth 100000
def sortRen : Go.Shelf.Ren := ⟨fun | 125 => 81 | 128 => 91 | 129 => 92 | 189 => 72 | 215 => 98 | 216 => 88 | 257 => 80 | 294 => 82 | 295 => 83 | 296 => 84 | 297 => 85 | 298 => 86 | 299 => 87 | 300 => 89 | 301 => 90 | 328 => 93 | 329 => 94 | 330 => 95 | 331 => 96 | 332 => 97 | 343 => 99 | n => n, fun | 0 => 0 | 3 => 3 | 4 => 4 | 5 => 5 | 9 => 9 | 28 => 54 | 46 => 111 | 51 => 49 | 53 => 106 | 131 => 135 | 182 => 129 | 183 => 130 | 218 => 139 | 222 => 143 | 228 => 145 | 229 => 146 | n => n, fun n => n⟩
theorem sortLays : Lays.n189 Try.prog sortRen := {
  mixed := by kernel_rfl
  f125 := Try.func81.trans (congrArg some (by kernel_rfl))
  f128 := Try.func91.trans (congrArg some (by kernel_rfl))
  f129 := Try.func92.trans (congrArg some (by kernel_rfl))
  f189 := Try.func72.trans (congrArg some (by kernel_rfl))
  f215 := Try.func98.trans (congrArg some (by kernel_rfl))
  f216 := Try.func88.trans (congrArg some (by kernel_rfl))
  f257 := Try.func80.trans (congrArg some (by kernel_rfl))
  f294 := Try.func82.trans (congrArg some (by kernel_rfl))
  f295 := Try.func83.trans (congrArg some (by kernel_rfl))
  f296 := Try.func84.trans (congrArg some (by kernel_rfl))
  f297 := Try.func85.trans (congrArg some (by kernel_rfl))
  f298 := Try.func86.trans (congrArg some (by kernel_rfl))
  f299 := Try.func87.trans (congrArg some (by kernel_rfl))
  f300 := Try.func89.trans (congrArg some (by kernel_rfl))
  f301 := Try.func90.trans (congrArg some (by kernel_rfl))
  f328 := Try.func93.trans (congrArg some (by kernel_rfl))
  f329 := Try.func94.trans (congrArg some (by kernel_rfl))
  f330 := Try.func95.trans (congrArg some (by kernel_rfl))
  f331 := Try.func96.trans (congrArg some (by kernel_rfl))
  f332 := Try.func97.trans (congrArg some (by kernel_rfl))
  f343 := Try.func99.trans (congrArg some (by kernel_rfl))
  t0 := Try.underlying0
  a0 := Try.isAgg0
  z0 := Try.sizeOf0
  v0 := Try.zeroValue0
  t3 := Try.underlying3
  a3 := Try.isAgg3
  z3 := Try.sizeOf3
  v3 := Try.zeroValue3
  t4 := Try.underlying4
  a4 := Try.isAgg4
  z4 := Try.sizeOf4
  v4 := Try.zeroValue4
  t5 := Try.underlying5
  a5 := Try.isAgg5
  z5 := Try.sizeOf5
  v5 := Try.zeroValue5
  t9 := Try.underlying9
  a9 := Try.isAgg9
  z9 := Try.sizeOf9
  v9 := Try.zeroValue9
  t28 := Try.underlying54
  a28 := Try.isAgg54
  z28 := Try.sizeOf54
  v28 := Try.zeroValue54
  t46 := Try.underlying111
  a46 := Try.isAgg111
  z46 := Try.sizeOf111
  v46 := Try.zeroValue111
  t51 := Try.underlying49
  a51 := Try.isAgg49
  z51 := Try.sizeOf49
  v51 := Try.zeroValue49
  t53 := Try.underlying106
  a53 := Try.isAgg106
  z53 := Try.sizeOf106
  v53 := Try.zeroValue106
  t131 := Try.underlying135
  a131 := Try.isAgg135
  z131 := Try.sizeOf135
  v131 := Try.zeroValue135
  t182 := Try.underlying129
  a182 := Try.isAgg129
  z182 := Try.sizeOf129
  v182 := Try.zeroValue129
  t183 := Try.underlying130
  a183 := Try.isAgg130
  z183 := Try.sizeOf130
  v183 := Try.zeroValue130
  t218 := Try.underlying139
  a218 := Try.isAgg139
  z218 := Try.sizeOf139
  v218 := Try.zeroValue139
  t222 := Try.underlying143
  a222 := Try.isAgg143
  z222 := Try.sizeOf143
  v222 := Try.zeroValue143
  t228 := Try.underlying145
  a228 := Try.isAgg145
  z228 := Try.sizeOf145
  v228 := Try.zeroValue145
  t229 := Try.underlying146
  a229 := Try.isAgg146
  z229 := Try.sizeOf146
  v229 := Try.zeroValue146 }
def sortI (zs : List Int) : List Int := zs.mergeSort fun x y => decide (x ≤ y)
/-- slices.Sort[[]int,int]: the library's contract -/
def slices_Sort_slint_int (x0 : Sl) : M Unit :=
  ⟨fun h Q => (x0.len = 0 ∧ Q () h) ∨ ∃ (b off : Nat) (cells : Array Value) (t : TypeId) (zs : List Int), x0.base = some ⟨b, off, none⟩ ∧ zs.length = x0.len ∧ h[b]? = some (.cells cells t (0, 0)) ∧ off + zs.length ≤ cells.size ∧
      (∀ (j : Nat) z, zs[j]? = some z → cells[off + j]? = some (.int .i64 z)) ∧ zs.length < 4611686018427387904 ∧
      ∀ h', h'[b]? = some (.cells (lay cells off ((sortI zs).map (Value.int .i64))) t (0, 0)) → (∀ i, i < h.size → i ≠ b → h'[i]? = h[i]?) → h.size ≤ h'.size → Q () h',
   fun hq H => H.imp (fun ⟨a, b⟩ => ⟨a, hq _ _ b⟩) (fun ⟨b, off, cells, t, zs, h1, h2, h3, h4, h5, h6, h7⟩ => ⟨b, off, cells, t, zs, h1, h2, h3, h4, h5, h6, fun h' a b c => hq _ _ (h7 h' a b c)⟩)⟩
theorem sort_lay {cells : Array Value} {off : Nat} {zs : List Int} (hl : off + zs.length ≤ cells.size) : putCells (Value.int .i64) off (sortI zs).toArray cells = lay cells off ((sortI zs).map (Value.int .i64)) := by
  have hs : (sortI zs).length = zs.length := List.length_mergeSort _
  apply Array.ext'
  rw [lay_toList _ _ _ (by rw [List.length_map, hs]; exact hl)]
  apply List.ext_getElem?
  intro i
  simp only [putCells, Array.getElem?_toList, Array.getElem?_mapIdx, List.size_toArray, hs, List.length_map]
  have htl : (cells.toList.take off).length = off := by rw [List.length_take, Array.length_toList]; omega
  rcases Nat.lt_or_ge i off with h1 | h1
  · rw [List.append_assoc, List.getElem?_append_left (by omega), List.getElem?_take, if_pos h1, Array.getElem?_toList]
    cases cells[i]? with
    | none => rfl
    | some v => simp only [Option.map_some]; rw [if_neg (by omega)]
  · rcases Nat.lt_or_ge i (off + zs.length) with h2 | h2
    · rw [List.append_assoc, List.getElem?_append_right (by omega), htl, List.getElem?_append_left (by rw [List.length_map, hs]; omega), List.getElem?_map]
      rw [Array.getElem?_eq_getElem (by omega)]
      simp only [Option.map_some]
      rw [if_pos ⟨h1, h2⟩, List.getElem?_eq_getElem (by rw [hs]; omega)]
      simp only [Option.map_some]
      congr 2
      rw [getElem!_pos _ _ (by simp; omega)]
      simp
    · rw [List.getElem?_append_right (by rw [List.length_append, htl, List.length_map, hs]; omega), List.length_append, htl, List.length_map, hs, List.getElem?_drop, Array.getElem?_toList, show off + zs.length + (i - (off + zs.length)) = i by omega]
      cases cells[i]? with
      | none => rfl
      | some v => simp only [Option.map_some]; rw [if_neg (by omega)]
theorem S_slices_Sort_slint_int (x0 : Sl) : Sound Try.prog 72 #[(x0 : Sl).v] (fun (r : Unit) => .tuple #[]) (slices_Sort_slint_int x0) := by
  intro w Q H
  obtain ⟨base, len, cap⟩ := x0
  rcases H with ⟨h0, hq⟩ | ⟨b, off, cells, t, zs, h1, h2, h3, h4, h5, h6, h7⟩
  · have h0' : len = 0 := h0
    subst h0'
    refine (Any.slices_Sort_int_none sortLays base cap w).mono ?_
    rintro e w' ⟨rfl, rfl⟩
    exact ⟨(), rfl, hq, Rest.refl _⟩
  · have h1' : base = some ⟨b, off, none⟩ := h1
    have h2' : zs.length = len := h2
    subst h1'; subst h2'
    have hH : Holds (Value.int .i64) w b off zs.toArray := fun j hj => by
      have hj' : j < zs.length := by simpa using hj
      have hz : zs[j]? = some zs[j] := List.getElem?_eq_getElem hj'
      refine ⟨?_, ?_⟩
      · rw [cell_h, hcell_blk h3, h5 j _ hz, getElem!_pos zs.toArray j hj]
        simp
      · have := hfrozen_blk (o := off + j) h3
        exact this
    refine (Any.slices_Sort_int sortLays b off cap zs w hH (blk_lt h3) h6).mono ?_
    rintro e w' ⟨rfl, n, os, rfl⟩
    refine ⟨(), rfl, h7 _ ?_ ?_ ?_, ⟨rfl, rfl⟩⟩
    · have hb := blk_lt h3
      show (w.heap.modify b (onCells (putCells (Value.int .i64) off (zs.mergeSort fun x y => decide (x ≤ y)).toArray)) ++ os)[b]? = _
      rw [Array.getElem?_append_left (by simpa using hb), Array.getElem?_modify, if_pos rfl, h3]
      simp only [Option.map_some, onCells]
      rw [show (zs.mergeSort fun x y => decide (x ≤ y)) = sortI zs from rfl, sort_lay h4]
    · intro i hi hne
      show (w.heap.modify b (onCells (putCells (Value.int .i64) off (zs.mergeSort fun x y => decide (x ≤ y)).toArray)) ++ os)[i]? = _
      rw [Array.getElem?_append_left (by simpa using hi), Array.getElem?_modify, if_neg (Ne.symm hne)]
    · show w.heap.size ≤ (w.heap.modify b (onCells (putCells (Value.int .i64) off (zs.mergeSort fun x y => decide (x ≤ y)).toArray)) ++ os).size
      simp
end Gx
namespace Gx
open Go
set_option linter.unusedVariables false
set_option maxRecDepth 100000
/-- ramble/disk.New -/
theorem tb9_3 : tabAt Go.Proofs.Try.f9 3 [[], [0, 0], [], [2, 2], [], [1, 3, 4], [5], [6, 0, 1, 2, 3, 4, 5, 6], [7, 0, 1, 2, 3, 4, 5, 6, 7]] [[], [0], [], [2], [], [1, 3, 4], [5], [6], []] [[], [0], [], [2], [], [0, 1, 2, 3, 4], [0, 1, 2, 3, 4, 5], [0, 1, 2, 3, 4, 5, 6], [0, 1, 2, 3, 4, 5, 6, 7]] = true := by kernel_rfl
def disk_New (x0 : Int) : M (Option Addr × Int) := do
  let x9_4 ← M.ite (decide (x0 < 1)) (do
    M.pure true
    ) (do
    M.pure (decide (x0 > 16384))
    )
  M.ite x9_4 (do
    M.pure ((none : Option Addr), 1)
    ) (do
    let y_22 ← do
      M.both (do
        let x11_7 ← mkS ty_api_Sector 128 128 (Array.replicate 128 (.int .u8 0) : Array Value) x0 x0
        M.both (do
          let x13_8 ← mkS ty_bool 1 1 (#[.bool false] : Array Value) x0 x0
          let x14_9 ← mkMap
          M.pure (x11_7, x13_8, x14_9, (#[(x11_7 : Sl).v, (x13_8 : Sl).v, .map x14_9, .bool false, .int .i64 0, .int .i64 0] : Array Value))
          ) (do
          let x14_10 ← mkMap
          let x13_11 ← mkS ty_bool 1 1 (#[.bool false] : Array Value) x0 x0
          M.pure (x11_7, x13_11, x14_10, (#[(x11_7 : Sl).v, (x13_11 : Sl).v, .map x14_10, .bool false, .int .i64 0, .int .i64 0] : Array Value))
          )
        ) (do
        M.both (do
          let x13_12 ← mkS ty_bool 1 1 (#[.bool false] : Array Value) x0 x0
          M.both (do
            let x11_13 ← mkS ty_api_Sector 128 128 (Array.replicate 128 (.int .u8 0) : Array Value) x0 x0
            let x14_14 ← mkMap
            M.pure (x11_13, x13_12, x14_14, (#[(x11_13 : Sl).v, (x13_12 : Sl).v, .map x14_14, .bool false, .int .i64 0, .int .i64 0] : Array Value))
            ) (do
            let x14_15 ← mkMap
            let x11_16 ← mkS ty_api_Sector 128 128 (Array.replicate 128 (.int .u8 0) : Array Value) x0 x0
            M.pure (x11_16, x13_12, x14_15, (#[(x11_16 : Sl).v, (x13_12 : Sl).v, .map x14_15, .bool false, .int .i64 0, .int .i64 0] : Array Value))
            )
          ) (do
          let x14_17 ← mkMap
          M.both (do
            let x11_18 ← mkS ty_api_Sector 128 128 (Array.replicate 128 (.int .u8 0) : Array Value) x0 x0
            let x13_19 ← mkS ty_bool 1 1 (#[.bool false] : Array Value) x0 x0
            M.pure (x11_18, x13_19, x14_17, (#[(x11_18 : Sl).v, (x13_19 : Sl).v, .map x14_17, .bool false, .int .i64 0, .int .i64 0] : Array Value))
            ) (do
            let x13_20 ← mkS ty_bool 1 1 (#[.bool false] : Array Value) x0 x0
            let x11_21 ← mkS ty_api_Sector 128 128 (Array.replicate 128 (.int .u8 0) : Array Value) x0 x0
            M.pure (x11_21, x13_20, x14_17, (#[(x11_21 : Sl).v, (x13_20 : Sl).v, .map x14_17, .bool false, .int .i64 0, .int .i64 0] : Array Value))
            )
          )
        )
    let x16_23 ← mkB ty_disk_Disk y_22.2.2.2
    M.pure (some x16_23, 0)
    )
theorem S_disk_New (x0 : Int) : Sound Go.Proofs.Try.prog 9 #[.int .i64 x0] (fun (r : Option Addr × Int) => .tuple #[.pointer r.1, .int .i64 r.2]) (disk_New x0) := by
  refine sound_of [(0, .int .i64 x0)] Go.Proofs.Try.func9 rfl rfl (Nat.le_of_ble_eq_true rfl) (args_of ⟨rfl, trivial⟩) (fun w0 w Q R a hret hE hR H => ?_)
  unfold disk_New at H
  refine w_seq (fun K hK_1 => ?_)
  refine t_region ?_
  refine t_val (v := .pointer (none : Option Addr)) rfl rfl hE rfl (r_assign hE rfl) (fun a hE => ?_)
  refine t_val (v := .int .i64 0) rfl rfl hE rfl (r_assign hE rfl) (fun a hE => ?_)
  refine t_nil ?_
  refine hK_1 _ _ ?_
  refine w_seq (fun K hK_2 => ?_)
  refine w_seq (fun K hK_3 => ?_)
  refine t_region ?_
  refine t_val (v := .int .i64 x0) rfl rfl hE rfl (r_move hE rfl) (fun a hE => ?_)
  refine t_val (v := .bool (decide (x0 < 1))) rfl rfl hE rfl (r_bin hE rfl rfl g_int b_lss) (fun a hE => ?_)
  refine t_val (v := .bool (decide (x0 < 1))) rfl rfl hE rfl (r_move hE rfl) (fun a hE => ?_)
  refine t_grp (n := (⟨17, []⟩ : Frm)) (w0 := w0) 3 (fun x9_4 : Bool => [(0, .int .i64 x0), (9, .bool x9_4)]) (M.unbind H) (fun Kr hKr H => ?_) ?_
  · rcases bool_em (decide (x0 < 1)) with hb | hb
    · replace H := M.ite_t hb H
      have hE := hE.reb 6 (decide (x0 < 1)) true hb rfl
      refine t_off rfl hE rfl rfl rfl (fun a ea => ?_)
      have hE := Env.put_some hE rfl ea; clear ea
      refine t_off rfl hE rfl rfl rfl (fun a ea => ?_)
      have hE := Env.put_some hE rfl ea; clear ea
      refine t_val rfl rfl hE rfl (r_pick_t hE rfl rfl) (fun a hE => ?_)
      refine t_nil ?_
      exact hKr _ _ _ (hE.cut (.cons rfl (.cons rfl Subs.nil))) hR H
    · replace H := M.ite_f hb H
      have hE := hE.reb 6 (decide (x0 < 1)) false hb rfl
      refine t_on rfl hE rfl rfl rfl ?_
      refine t_val (v := .int .i64 x0) rfl rfl hE rfl (r_move hE rfl) (fun a hE => ?_)
      refine t_on rfl hE rfl rfl rfl ?_
      refine t_val (v := .bool (decide (x0 > 16384))) rfl rfl hE rfl (r_bin hE rfl rfl g_int b_gtr) (fun a hE => ?_)
      refine t_val rfl rfl hE rfl (r_pick_f hE rfl rfl) (fun a hE => ?_)
      refine t_nil ?_
      exact hKr _ _ _ (hE.cut (.cons rfl (.cons rfl Subs.nil))) hR H
  · intro x9_4 a w hE hR H
    refine t_nil ?_
    refine hK_3 _ _ ?_
    refine w_cond x9_4 hE rfl (fun hb => ?_) (fun hb => ?_)
    · replace H := M.ite_t hb H
      refine w_seq (fun K hK_5 => ?_)
      refine t_region ?_
      refine t_val (v := .pointer (none : Option Addr)) rfl rfl hE rfl (r_assign hE rfl) (fun a hE => ?_)
      refine t_val (v := .int .i64 1) rfl rfl hE rfl (r_assign hE rfl) (fun a hE => ?_)
      refine t_nil ?_
      refine hK_5 _ _ ?_
      refine w_ret ?_
      exact hret _ _ _ ((none : Option Addr), 1) _ hE hR (res_run hE rfl (RV.tmp rfl (RV.tmp rfl RV.nil))) rfl H
    · replace H := M.ite_f hb H
      refine w_skip ?_
      refine hK_2 _ _ ?_
      refine w_seq (fun K hK_6 => ?_)
      have hT := tab_of tb9_3 rfl rfl
      refine d_start (fun w : World => (fun h : Heap => True) w.heap) [0, 1, 2, 3, 4, 5, 6, 7, 8] #[false, false, false, false, false, false, false, false, false] mo hR rfl rfl (fun w' e => by rw [e]; exact trivial) (fun w hh hR hs => ?_)
      replace H := M.at hh H; clear hh
      refine d_pureg (i := 0) (v := .int .i64 x0) #[true, false, false, false, false, false, false, false, false] rfl rfl hT (by kernel_rfl) hE rfl (wanted_none rfl) (fun w => r_move hE rfl) (fun a hE => ?_)
      refine d_pureg (i := 2) (v := .int .i64 x0) #[true, false, true, false, false, false, false, false, false] rfl rfl hT (by kernel_rfl) hE rfl (wanted_none rfl) (fun w => r_move hE rfl) (fun a hE => ?_)
      refine d_join (n := (⟨17, []⟩ : Frm)) (w0 := w0) (fun y_22 : Sl × Sl × Option Nat × Array Value => [(0, .int .i64 x0), (9, .bool x9_4), (10, .int .i64 x0), (12, .int .i64 x0), (11, (y_22.1 : Sl).v), (13, (y_22.2.1 : Sl).v), (14, .map y_22.2.2.1), (15, .agg y_22.2.2.2)]) 3 #[true, true, true, true, true, true, false, false, false] (M.unbind H) ?_ ?_
      · intro y_22 a w hE hR H
        obtain ⟨x16_23, qx16_23, H⟩ := H
        refine d_lasth (i := 6) (v := .pointer (some x16_23)) #[true, true, true, true, true, true, true, false, false] rfl rfl hT (by kernel_rfl) rfl hE hR rfl (wanted_none rfl) (r_box hE rfl qx16_23)  (fun a w hE hR hh => ?_)
        replace H := M.at hh H; clear hh
        refine d_pureg (i := 7) (v := .pointer (some x16_23)) #[true, true, true, true, true, true, true, true, false] rfl rfl hT (by kernel_rfl) hE rfl (wanted_none rfl) (fun w => r_assign hE rfl) (fun a hE => ?_)
        refine d_pureg (i := 8) (v := .int .i64 0) #[true, true, true, true, true, true, true, true, true] rfl rfl hT (by kernel_rfl) hE rfl (wanted_none rfl) (fun w => r_assign hE rfl) (fun a hE => ?_)
        refine d_done hT (by kernel_rfl) ?_
        refine hK_6 _ _ ?_
        refine w_ret ?_
        exact hret _ _ _ (some x16_23, 0) _ hE hR (res_run hE rfl (RV.tmp rfl (RV.tmp rfl RV.nil))) rfl H
      · intro hj H
        refine d_pick [1, 3, 4] hT (by kernel_rfl) rfl (fun i hi => ?_)
        simp only [List.mem_cons, List.not_mem_nil, or_false] at hi
        rcases hi with rfl | rfl | rfl
        · replace H := H.1
          refine p_ex (S := fun w : World => (fun h : Heap => True) w.heap) (i := 1) (fun x11_7 => (x11_7 : Sl).v) #[true, true, true, false, false, false, false, false, false] rfl rfl (by kernel_rfl) hR (wanted_none rfl) (M.unbind H) (fun Q H => mkS_run hE rfl rfl ap63 H) (fun _ _ _ _ _ => trivial) (fun x11_7 a w ea hR H hs => ?_)
          have hE := Env.put_some hE rfl ea; clear ea
          refine d_pick [3, 4] hT (by kernel_rfl) rfl (fun i hi => ?_)
          simp only [List.mem_cons, List.not_mem_nil, or_false] at hi
          rcases hi with rfl | rfl
          · replace H := H.1
            refine p_ex (S := fun w : World => (fun h : Heap => True) w.heap) (i := 3) (fun x13_8 => (x13_8 : Sl).v) #[true, true, true, true, false, false, false, false, false] rfl rfl (by kernel_rfl) hR (wanted_none rfl) (M.unbind H) (fun Q H => mkS_run hE rfl rfl ap45 H) (fun _ _ _ _ _ => trivial) (fun x13_8 a w ea hR H hs => ?_)
            have hE := Env.put_some hE rfl ea; clear ea
            obtain ⟨x14_9, qx14_9, H⟩ := H
            refine d_lasth (i := 4) (v := .map x14_9) #[true, true, true, true, true, false, false, false, false] rfl rfl hT (by kernel_rfl) rfl hE hR rfl (wanted_none rfl) (r_makeMap qx14_9)  (fun a w hE hR hh => ?_)
            replace H := M.at hh H; clear hh
            refine d_pureg (i := 5) (v := .agg (#[(x11_7 : Sl).v, (x13_8 : Sl).v, .map x14_9, .bool false, .int .i64 0, .int .i64 0] : Array Value)) #[true, true, true, true, true, true, false, false, false] rfl rfl hT (by kernel_rfl) hE rfl (wanted_none rfl) (fun w => r_build hE rfl zr66 pl66 (by rfl)) (fun a hE => ?_)
            exact hj _ _ _ (hE.cut (.cons rfl (.cons rfl (.cons rfl (.cons rfl (.cons rfl (.cons rfl (.cons rfl (.cons rfl Subs.nil))))))))) hR H
          · replace H := H.2
            obtain ⟨x14_10, qx14_10, H⟩ := H
            refine p_valh (S := fun w : World => (fun h : Heap => True) w.heap) (i := 4) (v := .map x14_10) #[true, true, true, false, true, false, false, false, false] rfl rfl (by kernel_rfl) hE hR rfl (wanted_none rfl) (r_makeMap qx14_10)  (fun _ _ => trivial) (fun a w hE hR hh hs => ?_)
            replace H := M.at hh H; clear hh
            refine d_exl (i := 3) (fun x13_11 => (x13_11 : Sl).v) #[true, true, true, true, true, false, false, false, false] rfl rfl hT (by kernel_rfl) rfl hR (wanted_none rfl) (M.unbind H) (fun Q H => mkS_run hE rfl rfl ap45 H) (fun x13_11 a w ea hR H => ?_)
            have hE := Env.put_some hE rfl ea; clear ea
            refine d_pureg (i := 5) (v := .agg (#[(x11_7 : Sl).v, (x13_11 : Sl).v, .map x14_10, .bool false, .int .i64 0, .int .i64 0] : Array Value)) #[true, true, true, true, true, true, false, false, false] rfl rfl hT (by kernel_rfl) hE rfl (wanted_none rfl) (fun w => r_build hE rfl zr66 pl66 (by rfl)) (fun a hE => ?_)
            exact hj _ _ _ (hE.cut (.cons rfl (.cons rfl (.cons rfl (.cons rfl (.cons rfl (.cons rfl (.cons rfl (.cons rfl Subs.nil))))))))) hR H
        · replace H := H.2.1
          refine p_ex (S := fun w : World => (fun h : Heap => True) w.heap) (i := 3) (fun x13_12 => (x13_12 : Sl).v) #[true, false, true, true, false, false, false, false, false] rfl rfl (by kernel_rfl) hR (wanted_none rfl) (M.unbind H) (fun Q H => mkS_run hE rfl rfl ap45 H) (fun _ _ _ _ _ => trivial) (fun x13_12 a w ea hR H hs => ?_)
          have hE := Env.put_some hE rfl ea; clear ea
          refine d_pick [1, 4] hT (by kernel_rfl) rfl (fun i hi => ?_)
          simp only [List.mem_cons, List.not_mem_nil, or_false] at hi
          rcases hi with rfl | rfl
          · replace H := H.1
            refine p_ex (S := fun w : World => (fun h : Heap => True) w.heap) (i := 1) (fun x11_13 => (x11_13 : Sl).v) #[true, true, true, true, false, false, false, false, false] rfl rfl (by kernel_rfl) hR (wanted_none rfl) (M.unbind H) (fun Q H => mkS_run hE rfl rfl ap63 H) (fun _ _ _ _ _ => trivial) (fun x11_13 a w ea hR H hs => ?_)
            have hE := Env.put_some hE rfl ea; clear ea
            obtain ⟨x14_14, qx14_14, H⟩ := H
            refine d_lasth (i := 4) (v := .map x14_14) #[true, true, true, true, true, false, false, false, false] rfl rfl hT (by kernel_rfl) rfl hE hR rfl (wanted_none rfl) (r_makeMap qx14_14)  (fun a w hE hR hh => ?_)
            replace H := M.at hh H; clear hh
            refine d_pureg (i := 5) (v := .agg (#[(x11_13 : Sl).v, (x13_12 : Sl).v, .map x14_14, .bool false, .int .i64 0, .int .i64 0] : Array Value)) #[true, true, true, true, true, true, false, false, false] rfl rfl hT (by kernel_rfl) hE rfl (wanted_none rfl) (fun w => r_build hE rfl zr66 pl66 (by rfl)) (fun a hE => ?_)
            exact hj _ _ _ (hE.cut (.cons rfl (.cons rfl (.cons rfl (.cons rfl (.cons rfl (.cons rfl (.cons rfl (.cons rfl Subs.nil))))))))) hR H
          · replace H := H.2
            obtain ⟨x14_15, qx14_15, H⟩ := H
            refine p_valh (S := fun w : World => (fun h : Heap => True) w.heap) (i := 4) (v := .map x14_15) #[true, false, true, true, true, false, false, false, false] rfl rfl (by kernel_rfl) hE hR rfl (wanted_none rfl) (r_makeMap qx14_15)  (fun _ _ => trivial) (fun a w hE hR hh hs => ?_)
            replace H := M.at hh H; clear hh
            refine d_exl (i := 1) (fun x11_16 => (x11_16 : Sl).v) #[true, true, true, true, true, false, false, false, false] rfl rfl hT (by kernel_rfl) rfl hR (wanted_none rfl) (M.unbind H) (fun Q H => mkS_run hE rfl rfl ap63 H) (fun x11_16 a w ea hR H => ?_)
            have hE := Env.put_some hE rfl ea; clear ea
            refine d_pureg (i := 5) (v := .agg (#[(x11_16 : Sl).v, (x13_12 : Sl).v, .map x14_15, .bool false, .int .i64 0, .int .i64 0] : Array Value)) #[true, true, true, true, true, true, false, false, false] rfl rfl hT (by kernel_rfl) hE rfl (wanted_none rfl) (fun w => r_build hE rfl zr66 pl66 (by rfl)) (fun a hE => ?_)
            exact hj _ _ _ (hE.cut (.cons rfl (.cons rfl (.cons rfl (.cons rfl (.cons rfl (.cons rfl (.cons rfl (.cons rfl Subs.nil))))))))) hR H
        · replace H := H.2.2
          obtain ⟨x14_17, qx14_17, H⟩ := H
          refine p_valh (S := fun w : World => (fun h : Heap => True) w.heap) (i := 4) (v := .map x14_17) #[true, false, true, false, true, false, false, false, false] rfl rfl (by kernel_rfl) hE hR rfl (wanted_none rfl) (r_makeMap qx14_17)  (fun _ _ => trivial) (fun a w hE hR hh hs => ?_)
          replace H := M.at hh H; clear hh
          refine d_pick [1, 3] hT (by kernel_rfl) rfl (fun i hi => ?_)
          simp only [List.mem_cons, List.not_mem_nil, or_false] at hi
          rcases hi with rfl | rfl
          · replace H := H.1
            refine p_ex (S := fun w : World => (fun h : Heap => True) w.heap) (i := 1) (fun x11_18 => (x11_18 : Sl).v) #[true, true, true, false, true, false, false, false, false] rfl rfl (by kernel_rfl) hR (wanted_none rfl) (M.unbind H) (fun Q H => mkS_run hE rfl rfl ap63 H) (fun _ _ _ _ _ => trivial) (fun x11_18 a w ea hR H hs => ?_)
            have hE := Env.put_some hE rfl ea; clear ea
            refine d_exl (i := 3) (fun x13_19 => (x13_19 : Sl).v) #[true, true, true, true, true, false, false, false, false] rfl rfl hT (by kernel_rfl) rfl hR (wanted_none rfl) (M.unbind H) (fun Q H => mkS_run hE rfl rfl ap45 H) (fun x13_19 a w ea hR H => ?_)
            have hE := Env.put_some hE rfl ea; clear ea
            refine d_pureg (i := 5) (v := .agg (#[(x11_18 : Sl).v, (x13_19 : Sl).v, .map x14_17, .bool false, .int .i64 0, .int .i64 0] : Array Value)) #[true, true, true, true, true, true, false, false, false] rfl rfl hT (by kernel_rfl) hE rfl (wanted_none rfl) (fun w => r_build hE rfl zr66 pl66 (by rfl)) (fun a hE => ?_)
            exact hj _ _ _ (hE.cut (.cons rfl (.cons rfl (.cons rfl (.cons rfl (.cons rfl (.cons rfl (.cons rfl (.cons rfl Subs.nil))))))))) hR H
          · replace H := H.2
            refine p_ex (S := fun w : World => (fun h : Heap => True) w.heap) (i := 3) (fun x13_20 => (x13_20 : Sl).v) #[true, false, true, true, true, false, false, false, false] rfl rfl (by kernel_rfl) hR (wanted_none rfl) (M.unbind H) (fun Q H => mkS_run hE rfl rfl ap45 H) (fun _ _ _ _ _ => trivial) (fun x13_20 a w ea hR H hs => ?_)
            have hE := Env.put_some hE rfl ea; clear ea
            refine d_exl (i := 1) (fun x11_21 => (x11_21 : Sl).v) #[true, true, true, true, true, false, false, false, false] rfl rfl hT (by kernel_rfl) rfl hR (wanted_none rfl) (M.unbind H) (fun Q H => mkS_run hE rfl rfl ap63 H) (fun x11_21 a w ea hR H => ?_)
            have hE := Env.put_some hE rfl ea; clear ea
            refine d_pureg (i := 5) (v := .agg (#[(x11_21 : Sl).v, (x13_20 : Sl).v, .map x14_17, .bool false, .int .i64 0, .int .i64 0] : Array Value)) #[true, true, true, true, true, true, false, false, false] rfl rfl hT (by kernel_rfl) hE rfl (wanted_none rfl) (fun w => r_build hE rfl zr66 pl66 (by rfl)) (fun a hE => ?_)
            exact hj _ _ _ (hE.cut (.cons rfl (.cons rfl (.cons rfl (.cons rfl (.cons rfl (.cons rfl (.cons rfl (.cons rfl Subs.nil))))))))) hR H

/-- (*ramble/disk.Disk).none -/
def disk_Disk_none (x0 : Option Addr) : M (Bool) := do
  let x11_3 ← M.ite ((x0).isNone) (do
    M.pure true
    ) (do
    let x7_4 ← nilP x0
    let x9_5 ← ldMp ((x7_4).add 2)
    M.pure ((x9_5).isNone)
    )
  M.pure x11_3
theorem S_disk_Disk_none (x0 : Option Addr) : Sound Go.Proofs.Try.prog 54 #[.pointer x0] (fun (r : Bool) => .bool r) (disk_Disk_none x0) := by
  refine sound_of [(0, .pointer x0)] Go.Proofs.Try.func54 rfl rfl (Nat.le_of_ble_eq_true rfl) (args_of ⟨rfl, trivial⟩) (fun w0 w Q R a hret hE hR H => ?_)
  unfold disk_Disk_none at H
  refine w_seq (fun K hK_1 => ?_)
  refine t_region ?_
  refine t_val (v := .bool false) rfl rfl hE rfl (r_assign hE rfl) (fun a hE => ?_)
  refine t_nil ?_
  refine hK_1 _ _ ?_
  refine w_seq (fun K hK_2 => ?_)
  refine t_region ?_
  refine t_val (v := .pointer x0) rfl rfl hE rfl (r_move hE rfl) (fun a hE => ?_)
  refine t_val (v := .bool ((x0).isNone)) rfl rfl hE rfl (r_bin hE rfl rfl g_ptr (b_eqlP un23)) (fun a hE => ?_)
  refine t_val (v := .bool ((x0).isNone)) rfl rfl hE rfl (r_move hE rfl) (fun a hE => ?_)
  refine t_grp (n := (⟨12, []⟩ : Frm)) (w0 := w0) 6 (fun x11_3 : Bool => [(2, .bool false), (11, .bool x11_3)]) (M.unbind H) (fun Kr hKr H => ?_) ?_
  · rcases bool_em ((x0).isNone) with hb | hb
    · replace H := M.ite_t hb H
      have hE := hE.reb 5 ((x0).isNone) true hb rfl
      refine t_off rfl hE rfl rfl rfl (fun a ea => ?_)
      have hE := Env.put_some hE rfl ea; clear ea
      refine t_off rfl hE rfl rfl rfl (fun a ea => ?_)
      have hE := Env.put_some hE rfl ea; clear ea
      refine t_off rfl hE rfl rfl rfl (fun a ea => ?_)
      have hE := Env.put_some hE rfl ea; clear ea
      refine t_off rfl hE rfl rfl rfl (fun a ea => ?_)
      have hE := Env.put_some hE rfl ea; clear ea
      refine t_off rfl hE rfl rfl rfl (fun a ea => ?_)
      have hE := Env.put_some hE rfl ea; clear ea
      refine t_val rfl rfl hE rfl (r_pick_t hE rfl rfl) (fun a hE => ?_)
      refine t_nil ?_
      exact hKr _ _ _ (hE.cut (.cons rfl (.cons rfl Subs.nil))) hR H
    · replace H := M.ite_f hb H
      have hE := hE.reb 5 ((x0).isNone) false hb rfl
      refine t_on rfl hE rfl rfl rfl ?_
      refine t_val (v := .pointer x0) rfl rfl hE rfl (r_move hE rfl) (fun a hE => ?_)
      refine t_on rfl hE rfl rfl rfl ?_
      obtain ⟨x7_4, qx7_4, H⟩ := H
      refine t_val (v := .pointer (some x7_4)) rfl rfl hE rfl (r_nilCheck hE (hx_eq rfl (congrArg Value.pointer qx7_4))) (fun a hE => ?_)
      refine t_on rfl hE rfl rfl rfl ?_
      refine t_val (v := .pointer (some ((x7_4).add 2))) rfl rfl hE rfl (r_fieldAddr hE rfl fd66_2) (fun a hE => ?_)
      refine t_on rfl hE rfl rfl rfl ?_
      obtain ⟨x9_5, qx9_5, H⟩ := H
      refine t_val (v := .map x9_5) rfl rfl hE rfl (r_load hE rfl sc64 qx9_5) (fun a hE => ?_)
      refine t_on rfl hE rfl rfl rfl ?_
      refine t_val (v := .bool ((x9_5).isNone)) rfl rfl hE rfl (r_bin hE rfl rfl g_mp (b_eqlM un64)) (fun a hE => ?_)
      refine t_val rfl rfl hE rfl (r_pick_f hE rfl rfl) (fun a hE => ?_)
      refine t_nil ?_
      exact hKr _ _ _ (hE.cut (.cons rfl (.cons rfl Subs.nil))) hR H
  · intro x11_3 a w hE hR H
    refine t_val (v := .bool x11_3) rfl rfl hE rfl (r_assign hE rfl) (fun a hE => ?_)
    refine t_nil ?_
    refine hK_2 _ _ ?_
    refine w_ret ?_
    exact hret _ _ _ x11_3 _ hE hR (res_run hE rfl (RV.tmp rfl RV.nil)) rfl H

/-- (*ramble/disk.Disk).can -/
def disk_Disk_can (x0 : Option Addr) : M (Int) := do
  let x5_4 ← disk_Disk_none x0
  M.ite x5_4 (do
    M.pure 2
    ) (do
    let x8_7 ← nilP x0
    let x10_8 ← ldB ((x8_7).add 3)
    M.ite x10_8 (do
      M.pure 9
      ) (do
      M.pure 0
      )
    )
theorem S_disk_Disk_can (x0 : Option Addr) : Sound Go.Proofs.Try.prog 50 #[.pointer x0] (fun (r : Int) => .int .i64 r) (disk_Disk_can x0) := by
  refine sound_of [(0, .pointer x0)] Go.Proofs.Try.func50 rfl rfl (Nat.le_of_ble_eq_true rfl) (args_of ⟨rfl, trivial⟩) (fun w0 w Q R a hret hE hR H => ?_)
  unfold disk_Disk_can at H
  refine w_seq (fun K hK_1 => ?_)
  refine t_region ?_
  refine t_val (v := .int .i64 0) rfl rfl hE rfl (r_assign hE rfl) (fun a hE => ?_)
  refine t_nil ?_
  refine hK_1 _ _ ?_
  refine w_seq (fun K hK_2 => ?_)
  refine w_block ?_
  refine w_seq (fun K hK_3 => ?_)
  refine t_region ?_
  refine t_val (v := .pointer x0) rfl rfl hE rfl (r_move hE rfl) (fun a hE => ?_)
  refine t_call hE hR cl_disk_Disk_none rfl (S_disk_Disk_none x0) (M.unbind H) (fun x5_4 a w ea hR H => ?_)
  have hE := Env.put_some hE rfl ea; clear ea
  refine t_val (v := .bool x5_4) rfl rfl hE rfl (r_assign hE rfl) (fun a hE => ?_)
  refine t_nil ?_
  refine hK_3 _ _ ?_
  refine w_cond x5_4 hE rfl (fun hb => ?_) (fun hb => ?_)
  · replace H := M.ite_t hb H
    refine w_seq (fun K hK_5 => ?_)
    refine t_region ?_
    refine t_val (v := .int .i64 2) rfl rfl hE rfl (r_assign hE rfl) (fun a hE => ?_)
    refine t_nil ?_
    refine hK_5 _ _ ?_
    refine w_ret ?_
    exact hret _ _ _ 2 _ hE hR (res_run hE rfl (RV.tmp rfl RV.nil)) rfl H
  · replace H := M.ite_f hb H
    refine w_seq (fun K hK_6 => ?_)
    refine t_region ?_
    refine t_val (v := .pointer x0) rfl rfl hE rfl (r_move hE rfl) (fun a hE => ?_)
    obtain ⟨x8_7, qx8_7, H⟩ := H
    refine t_val (v := .pointer (some x8_7)) rfl rfl hE rfl (r_nilCheck hE (hx_eq rfl (congrArg Value.pointer qx8_7))) (fun a hE => ?_)
    refine t_val (v := .pointer (some ((x8_7).add 3))) rfl rfl hE rfl (r_fieldAddr hE rfl fd66_3) (fun a hE => ?_)
    obtain ⟨x10_8, qx10_8, H⟩ := H
    refine t_val (v := .bool x10_8) rfl rfl hE rfl (r_load hE rfl sc4 qx10_8) (fun a hE => ?_)
    refine t_val (v := .bool x10_8) rfl rfl hE rfl (r_assign hE rfl) (fun a hE => ?_)
    refine t_nil ?_
    refine hK_6 _ _ ?_
    refine w_cond x10_8 hE rfl (fun hb => ?_) (fun hb => ?_)
    · replace H := M.ite_t hb H
      refine w_seq (fun K hK_9 => ?_)
      refine t_region ?_
      refine t_val (v := .int .i64 9) rfl rfl hE rfl (r_assign hE rfl) (fun a hE => ?_)
      refine t_nil ?_
      refine hK_9 _ _ ?_
      refine w_ret ?_
      exact hret _ _ _ 9 _ hE hR (res_run hE rfl (RV.tmp rfl RV.nil)) rfl H
    · replace H := M.ite_f hb H
      refine w_skip ?_
      refine hK_2 _ _ ?_
      refine w_seq (fun K hK_10 => ?_)
      refine t_region ?_
      refine t_val (v := .int .i64 0) rfl rfl hE rfl (r_assign hE rfl) (fun a hE => ?_)
      refine t_nil ?_
      refine hK_10 _ _ ?_
      refine w_ret ?_
      exact hret _ _ _ 0 _ hE hR (res_run hE rfl (RV.tmp rfl RV.nil)) rfl H

/-- (*ramble/disk.Disk).there -/
def disk_Disk_there (x0 : Option Addr) (x1 : Int) : M (Int) := do
  let x15_4 ← M.ite (decide (x1 < 0)) (do
    M.pure true
    ) (do
    let x10_5 ← nilP x0
    let x12_6 ← ldL ((x10_5).add 0)
    M.pure (decide (x1 ≥ (x12_6.len : Int)))
    )
  M.ite x15_4 (do
    M.pure 41
    ) (do
    M.pure 0
    )
theorem S_disk_Disk_there (x0 : Option Addr) (x1 : Int) : Sound Go.Proofs.Try.prog 51 #[.pointer x0, .int .i64 x1] (fun (r : Int) => .int .i64 r) (disk_Disk_there x0 x1) := by
  refine sound_of [(0, .pointer x0), (1, .int .i64 x1)] Go.Proofs.Try.func51 rfl rfl (Nat.le_of_ble_eq_true rfl) (args_of ⟨rfl, rfl, trivial⟩) (fun w0 w Q R a hret hE hR H => ?_)
  unfold disk_Disk_there at H
  refine w_seq (fun K hK_1 => ?_)
  refine t_region ?_
  refine t_val (v := .int .i64 0) rfl rfl hE rfl (r_assign hE rfl) (fun a hE => ?_)
  refine t_nil ?_
  refine hK_1 _ _ ?_
  refine w_seq (fun K hK_2 => ?_)
  refine w_seq (fun K hK_3 => ?_)
  refine t_region ?_
  refine t_val (v := .int .i64 x1) rfl rfl hE rfl (r_move hE rfl) (fun a hE => ?_)
  refine t_val (v := .bool (decide (x1 < 0))) rfl rfl hE rfl (r_bin hE rfl rfl g_int b_lss) (fun a hE => ?_)
  refine t_val (v := .bool (decide (x1 < 0))) rfl rfl hE rfl (r_move hE rfl) (fun a hE => ?_)
  refine t_grp (n := (⟨16, []⟩ : Frm)) (w0 := w0) 8 (fun x15_4 : Bool => [(15, .bool x15_4)]) (M.unbind H) (fun Kr hKr H => ?_) ?_
  · rcases bool_em (decide (x1 < 0)) with hb | hb
    · replace H := M.ite_t hb H
      have hE := hE.reb 7 (decide (x1 < 0)) true hb rfl
      refine t_off rfl hE rfl rfl rfl (fun a ea => ?_)
      have hE := Env.put_some hE rfl ea; clear ea
      refine t_off rfl hE rfl rfl rfl (fun a ea => ?_)
      have hE := Env.put_some hE rfl ea; clear ea
      refine t_off rfl hE rfl rfl rfl (fun a ea => ?_)
      have hE := Env.put_some hE rfl ea; clear ea
      refine t_off rfl hE rfl rfl rfl (fun a ea => ?_)
      have hE := Env.put_some hE rfl ea; clear ea
      refine t_off rfl hE rfl rfl rfl (fun a ea => ?_)
      have hE := Env.put_some hE rfl ea; clear ea
      refine t_off rfl hE rfl rfl rfl (fun a ea => ?_)
      have hE := Env.put_some hE rfl ea; clear ea
      refine t_off rfl hE rfl rfl rfl (fun a ea => ?_)
      have hE := Env.put_some hE rfl ea; clear ea
      refine t_val rfl rfl hE rfl (r_pick_t hE rfl rfl) (fun a hE => ?_)
      refine t_nil ?_
      exact hKr _ _ _ (hE.cut (.cons rfl Subs.nil)) hR H
    · replace H := M.ite_f hb H
      have hE := hE.reb 7 (decide (x1 < 0)) false hb rfl
      refine t_on rfl hE rfl rfl rfl ?_
      refine t_val (v := .int .i64 x1) rfl rfl hE rfl (r_move hE rfl) (fun a hE => ?_)
      refine t_on rfl hE rfl rfl rfl ?_
      refine t_val (v := .pointer x0) rfl rfl hE rfl (r_move hE rfl) (fun a hE => ?_)
      refine t_on rfl hE rfl rfl rfl ?_
      obtain ⟨x10_5, qx10_5, H⟩ := H
      refine t_val (v := .pointer (some x10_5)) rfl rfl hE rfl (r_nilCheck hE (hx_eq rfl (congrArg Value.pointer qx10_5))) (fun a hE => ?_)
      refine t_on rfl hE rfl rfl rfl ?_
      refine t_val (v := .pointer (some ((x10_5).add 0))) rfl rfl hE rfl (r_fieldAddr hE rfl fd66_0) (fun a hE => ?_)
      refine t_on rfl hE rfl rfl rfl ?_
      obtain ⟨x12_6, qx12_6, H⟩ := H
      refine t_val (v := (x12_6 : Sl).v) rfl rfl hE rfl (r_load hE rfl sc63 qx12_6) (fun a hE => ?_)
      refine t_on rfl hE rfl rfl rfl ?_
      refine t_val (v := .int .i64 (x12_6.len : Int)) rfl rfl hE rfl (r_len hE rfl 47 un63) (fun a hE => ?_)
      refine t_on rfl hE rfl rfl rfl ?_
      refine t_val (v := .bool (decide (x1 ≥ (x12_6.len : Int)))) rfl rfl hE rfl (r_bin hE rfl rfl g_int b_geq) (fun a hE => ?_)
      refine t_val rfl rfl hE rfl (r_pick_f hE rfl rfl) (fun a hE => ?_)
      refine t_nil ?_
      exact hKr _ _ _ (hE.cut (.cons rfl Subs.nil)) hR H
  · intro x15_4 a w hE hR H
    refine t_nil ?_
    refine hK_3 _ _ ?_
    refine w_cond x15_4 hE rfl (fun hb => ?_) (fun hb => ?_)
    · replace H := M.ite_t hb H
      refine w_seq (fun K hK_7 => ?_)
      refine t_region ?_
      refine t_val (v := .int .i64 41) rfl rfl hE rfl (r_assign hE rfl) (fun a hE => ?_)
      refine t_nil ?_
      refine hK_7 _ _ ?_
      refine w_ret ?_
      exact hret _ _ _ 41 _ hE hR (res_run hE rfl (RV.tmp rfl RV.nil)) rfl H
    · replace H := M.ite_f hb H
      refine w_skip ?_
      refine hK_2 _ _ ?_
      refine w_seq (fun K hK_8 => ?_)
      refine t_region ?_
      refine t_val (v := .int .i64 0) rfl rfl hE rfl (r_assign hE rfl) (fun a hE => ?_)
      refine t_nil ?_
      refine hK_8 _ _ ?_
      refine w_ret ?_
      exact hret _ _ _ 0 _ hE hR (res_run hE rfl (RV.tmp rfl RV.nil)) rfl H

/-- (*ramble/disk.Disk).call -/
def disk_Disk_call_j1 (c0_2 : Option Addr) : M (Int) := do
  let x24_4 ← nilP c0_2
  let x26_5 ← ldI .i64 ((x24_4).add 5)
  let x28_6 ← nilP c0_2
  stV ((x28_6).add 5) (.int .i64 (IntKind.wrap .i64 (x26_5 + 1)))
  M.pure 0
def disk_Disk_call (x0 : Option Addr) : M (Int) := do
  let x4_10 ← nilP x0
  let x6_11 ← ldI .i64 ((x4_10).add 4)
  M.ite (decide (x6_11 > 0)) (do
    let x9_13 ← nilP x0
    let x11_14 ← ldI .i64 ((x9_13).add 4)
    let x13_15 ← nilP x0
    stV ((x13_15).add 4) (.int .i64 (IntKind.wrap .i64 (x11_14 - 1)))
    let x16_18 ← nilP x0
    let x18_19 ← ldI .i64 ((x16_18).add 4)
    M.ite (x18_19 == 0) (do
      let x21_21 ← nilP x0
      stV ((x21_21).add 3) (.bool true)
      M.pure 9
      ) (do
      disk_Disk_call_j1 x0
      )
    ) (do
    disk_Disk_call_j1 x0
    )
theorem S_disk_Disk_call (x0 : Option Addr) : Sound Go.Proofs.Try.prog 52 #[.pointer x0] (fun (r : Int) => .int .i64 r) (disk_Disk_call x0) := by
  refine sound_of [(0, .pointer x0)] Go.Proofs.Try.func52 rfl rfl (Nat.le_of_ble_eq_true rfl) (args_of ⟨rfl, trivial⟩) (fun w0 w Q R a hret hE hR H => ?_)
  unfold disk_Disk_call at H
  refine w_seq (fun K hK_1 => ?_)
  refine t_region ?_
  refine t_val (v := .int .i64 0) rfl rfl hE rfl (r_assign hE rfl) (fun a hE => ?_)
  refine t_nil ?_
  refine hK_1 _ _ ?_
  refine w_seq_join (fun a w => Env (⟨30, []⟩ : Frm) a [(0, .pointer x0)] ∧ Rest w0 w ∧ (disk_Disk_call_j1 x0).wp w.heap Q) ?_ ?_
  · rintro a w ⟨hE, hR, H⟩
    unfold disk_Disk_call_j1 at H
    refine w_seq (fun K hK_3 => ?_)
    refine t_region ?_
    refine t_val (v := .pointer x0) rfl rfl hE rfl (r_move hE rfl) (fun a hE => ?_)
    obtain ⟨x24_4, qx24_4, H⟩ := H
    refine t_val (v := .pointer (some x24_4)) rfl rfl hE rfl (r_nilCheck hE (hx_eq rfl (congrArg Value.pointer qx24_4))) (fun a hE => ?_)
    refine t_val (v := .pointer (some ((x24_4).add 5))) rfl rfl hE rfl (r_fieldAddr hE rfl fd66_5) (fun a hE => ?_)
    obtain ⟨x26_5, qx26_5, H⟩ := H
    refine t_val (v := .int .i64 x26_5) rfl rfl hE rfl (r_load hE rfl sc2 qx26_5) (fun a hE => ?_)
    refine t_val (v := .int .i64 (IntKind.wrap .i64 (x26_5 + 1))) rfl rfl hE rfl (r_bin hE rfl rfl g_int b_add) (fun a hE => ?_)
    obtain ⟨x28_6, qx28_6, H⟩ := H
    refine t_val (v := .pointer (some x28_6)) rfl rfl hE rfl (r_nilCheck hE (hx_eq rfl (congrArg Value.pointer qx28_6))) (fun a hE => ?_)
    refine t_val (v := .pointer (some ((x28_6).add 5))) rfl rfl hE rfl (r_fieldAddr hE rfl fd66_5) (fun a hE => ?_)
    obtain ⟨u_7, qu_7, H⟩ := H
    refine t_sth rfl rfl hE hR (r_store hE rfl rfl sz2 qu_7) (fun a w hE hR hh => ?_)
    replace H := M.at hh H; clear hh
    refine t_nil ?_
    refine hK_3 _ _ ?_
    refine w_seq (fun K hK_8 => ?_)
    refine t_region ?_
    refine t_val (v := .int .i64 0) rfl rfl hE rfl (r_assign hE rfl) (fun a hE => ?_)
    refine t_nil ?_
    refine hK_8 _ _ ?_
    refine w_ret ?_
    exact hret _ _ _ 0 _ hE hR (res_run hE rfl (RV.tmp rfl RV.nil)) rfl H
  · skip
    refine w_seq (fun K hK_9 => ?_)
    refine t_region ?_
    refine t_val (v := .pointer x0) rfl rfl hE rfl (r_move hE rfl) (fun a hE => ?_)
    obtain ⟨x4_10, qx4_10, H⟩ := H
    refine t_val (v := .pointer (some x4_10)) rfl rfl hE rfl (r_nilCheck hE (hx_eq rfl (congrArg Value.pointer qx4_10))) (fun a hE => ?_)
    refine t_val (v := .pointer (some ((x4_10).add 4))) rfl rfl hE rfl (r_fieldAddr hE rfl fd66_4) (fun a hE => ?_)
    obtain ⟨x6_11, qx6_11, H⟩ := H
    refine t_val (v := .int .i64 x6_11) rfl rfl hE rfl (r_load hE rfl sc3 qx6_11) (fun a hE => ?_)
    refine t_val (v := .bool (decide (x6_11 > 0))) rfl rfl hE rfl (r_bin hE rfl rfl g_int b_gtr) (fun a hE => ?_)
    refine t_nil ?_
    refine hK_9 _ _ ?_
    refine w_cond (decide (x6_11 > 0)) hE rfl (fun hb => ?_) (fun hb => ?_)
    · replace H := M.ite_t hb H
      refine w_seq (fun K hK_12 => ?_)
      refine t_region ?_
      refine t_val (v := .pointer x0) rfl rfl hE rfl (r_move hE rfl) (fun a hE => ?_)
      obtain ⟨x9_13, qx9_13, H⟩ := H
      refine t_val (v := .pointer (some x9_13)) rfl rfl hE rfl (r_nilCheck hE (hx_eq rfl (congrArg Value.pointer qx9_13))) (fun a hE => ?_)
      refine t_val (v := .pointer (some ((x9_13).add 4))) rfl rfl hE rfl (r_fieldAddr hE rfl fd66_4) (fun a hE => ?_)
      obtain ⟨x11_14, qx11_14, H⟩ := H
      refine t_val (v := .int .i64 x11_14) rfl rfl hE rfl (r_load hE rfl sc3 qx11_14) (fun a hE => ?_)
      refine t_val (v := .int .i64 (IntKind.wrap .i64 (x11_14 - 1))) rfl rfl hE rfl (r_bin hE rfl rfl g_int b_sub) (fun a hE => ?_)
      obtain ⟨x13_15, qx13_15, H⟩ := H
      refine t_val (v := .pointer (some x13_15)) rfl rfl hE rfl (r_nilCheck hE (hx_eq rfl (congrArg Value.pointer qx13_15))) (fun a hE => ?_)
      refine t_val (v := .pointer (some ((x13_15).add 4))) rfl rfl hE rfl (r_fieldAddr hE rfl fd66_4) (fun a hE => ?_)
      obtain ⟨u_16, qu_16, H⟩ := H
      refine t_sth rfl rfl hE hR (r_store hE rfl rfl sz3 qu_16) (fun a w hE hR hh => ?_)
      replace H := M.at hh H; clear hh
      refine t_nil ?_
      refine hK_12 _ _ ?_
      refine w_seq (fun K hK_17 => ?_)
      refine t_region ?_
      refine t_val (v := .pointer x0) rfl rfl hE rfl (r_move hE rfl) (fun a hE => ?_)
      obtain ⟨x16_18, qx16_18, H⟩ := H
      refine t_val (v := .pointer (some x16_18)) rfl rfl hE rfl (r_nilCheck hE (hx_eq rfl (congrArg Value.pointer qx16_18))) (fun a hE => ?_)
      refine t_val (v := .pointer (some ((x16_18).add 4))) rfl rfl hE rfl (r_fieldAddr hE rfl fd66_4) (fun a hE => ?_)
      obtain ⟨x18_19, qx18_19, H⟩ := H
      refine t_val (v := .int .i64 x18_19) rfl rfl hE rfl (r_load hE rfl sc3 qx18_19) (fun a hE => ?_)
      refine t_val (v := .bool (x18_19 == 0)) rfl rfl hE rfl (r_bin hE rfl rfl g_int b_eql) (fun a hE => ?_)
      refine t_nil ?_
      refine hK_17 _ _ ?_
      refine w_cond (x18_19 == 0) hE rfl (fun hb => ?_) (fun hb => ?_)
      · replace H := M.ite_t hb H
        refine w_seq (fun K hK_20 => ?_)
        refine t_region ?_
        refine t_val (v := .pointer x0) rfl rfl hE rfl (r_move hE rfl) (fun a hE => ?_)
        obtain ⟨x21_21, qx21_21, H⟩ := H
        refine t_val (v := .pointer (some x21_21)) rfl rfl hE rfl (r_nilCheck hE (hx_eq rfl (congrArg Value.pointer qx21_21))) (fun a hE => ?_)
        refine t_val (v := .pointer (some ((x21_21).add 3))) rfl rfl hE rfl (r_fieldAddr hE rfl fd66_3) (fun a hE => ?_)
        obtain ⟨u_22, qu_22, H⟩ := H
        refine t_sth rfl rfl hE hR (r_store hE rfl rfl sz4 qu_22) (fun a w hE hR hh => ?_)
        replace H := M.at hh H; clear hh
        refine t_nil ?_
        refine hK_20 _ _ ?_
        refine w_seq (fun K hK_23 => ?_)
        refine t_region ?_
        refine t_val (v := .int .i64 9) rfl rfl hE rfl (r_assign hE rfl) (fun a hE => ?_)
        refine t_nil ?_
        refine hK_23 _ _ ?_
        refine w_ret ?_
        exact hret _ _ _ 9 _ hE hR (res_run hE rfl (RV.tmp rfl RV.nil)) rfl H
      · replace H := M.ite_f hb H
        refine w_skip ?_
        exact ⟨hE.cut (.cons rfl Subs.nil), hR, H⟩
    · replace H := M.ite_f hb H
      refine w_skip ?_
      exact ⟨hE.cut (.cons rfl Subs.nil), hR, H⟩

/-- (*ramble/disk.Disk).Write -/
theorem tb21_10 : tabAt Go.Proofs.Try.f21 10 [[], [0], [1], [2], [], [], [3, 4, 5, 0, 1, 2, 3, 4, 5]] [[], [0], [1], [2], [], [], [3, 4, 5]] [[], [0], [0, 1], [0, 1, 2], [], [], [0, 1, 2, 3, 4, 5]] = true := by kernel_rfl
def disk_Disk_Write (x0 : Option Addr) (x1 : Int) (x2 : Array Value) : M (Int) := do
  let x5_2 ← mkB ty_api_Sector x2
  let x11_5 ← disk_Disk_can x0
  M.ite (x11_5 != 0) (do
    M.pure x11_5
    ) (do
    let x17_10 ← disk_Disk_there x0 x1
    M.ite (x17_10 != 0) (do
      M.pure x17_10
      ) (do
      let x22_15 ← disk_Disk_call x0
      M.ite (x22_15 != 0) (do
        M.pure x22_15
        ) (do
        let x27_19 ← nilP x0
        let x29_20 ← ldMp ((x27_19).add 2)
        let x31_21 ← ldG 128 x5_2
        upM (.int .i64) (.int .i64 x1) (.agg x31_21) x29_20
        M.pure 0
        )
      )
    )
theorem S_disk_Disk_Write (x0 : Option Addr) (x1 : Int) (x2 : Array Value) : Sound Go.Proofs.Try.prog 21 #[.pointer x0, .int .i64 x1, .agg x2] (fun (r : Int) => .int .i64 r) (disk_Disk_Write x0 x1 x2) := by
  refine sound_of [(0, .pointer x0), (1, .int .i64 x1), (2, .agg x2)] Go.Proofs.Try.func21 rfl rfl (Nat.le_of_ble_eq_true rfl) (args_of ⟨rfl, rfl, rfl, trivial⟩) (fun w0 w Q R a hret hE hR H => ?_)
  unfold disk_Disk_Write at H
  refine w_seq (fun K hK_1 => ?_)
  refine t_region ?_
  obtain ⟨x5_2, qx5_2, H⟩ := H
  refine t_valh (v := .pointer (some x5_2)) rfl rfl hE rfl hR (r_box hE rfl qx5_2) (fun a w hE hR hh => ?_)
  replace H := M.at hh H; clear hh
  refine t_val (v := .int .i64 0) rfl rfl hE rfl (r_assign hE rfl) (fun a hE => ?_)
  refine t_nil ?_
  refine hK_1 _ _ ?_
  refine w_seq (fun K hK_3 => ?_)
  refine w_seq (fun K hK_4 => ?_)
  refine t_region ?_
  refine t_val (v := .pointer x0) rfl rfl hE rfl (r_move hE rfl) (fun a hE => ?_)
  refine t_call hE hR cl_disk_Disk_can rfl (S_disk_Disk_can x0) (M.unbind H) (fun x11_5 a w ea hR H => ?_)
  have hE := Env.put_some hE rfl ea; clear ea
  refine t_val (v := .int .i64 x11_5) rfl rfl hE rfl (r_assign hE rfl) (fun a hE => ?_)
  refine t_nil ?_
  refine hK_4 _ _ ?_
  refine w_seq (fun K hK_6 => ?_)
  refine t_region ?_
  refine t_val (v := .int .i64 x11_5) rfl rfl hE rfl (r_move hE rfl) (fun a hE => ?_)
  refine t_val (v := .bool (x11_5 != 0)) rfl rfl hE rfl (r_bin hE rfl rfl g_int b_neq) (fun a hE => ?_)
  refine t_nil ?_
  refine hK_6 _ _ ?_
  refine w_cond (x11_5 != 0) hE rfl (fun hb => ?_) (fun hb => ?_)
  · replace H := M.ite_t hb H
    refine w_seq (fun K hK_7 => ?_)
    refine t_region ?_
    refine t_val (v := .int .i64 x11_5) rfl rfl hE rfl (r_move hE rfl) (fun a hE => ?_)
    refine t_val (v := .int .i64 x11_5) rfl rfl hE rfl (r_assign hE rfl) (fun a hE => ?_)
    refine t_nil ?_
    refine hK_7 _ _ ?_
    refine w_ret ?_
    exact hret _ _ _ x11_5 _ hE hR (res_run hE rfl (RV.tmp rfl RV.nil)) rfl H
  · replace H := M.ite_f hb H
    refine w_skip ?_
    refine hK_3 _ _ ?_
    refine w_seq (fun K hK_8 => ?_)
    refine w_seq (fun K hK_9 => ?_)
    refine t_region ?_
    refine t_val (v := .pointer x0) rfl rfl hE rfl (r_move hE rfl) (fun a hE => ?_)
    refine t_val (v := .int .i64 x1) rfl rfl hE rfl (r_move hE rfl) (fun a hE => ?_)
    refine t_call hE hR cl_disk_Disk_there rfl (S_disk_Disk_there x0 x1) (M.unbind H) (fun x17_10 a w ea hR H => ?_)
    have hE := Env.put_some hE rfl ea; clear ea
    refine t_val (v := .int .i64 x17_10) rfl rfl hE rfl (r_assign hE rfl) (fun a hE => ?_)
    refine t_nil ?_
    refine hK_9 _ _ ?_
    refine w_seq (fun K hK_11 => ?_)
    refine t_region ?_
    refine t_val (v := .int .i64 x17_10) rfl rfl hE rfl (r_move hE rfl) (fun a hE => ?_)
    refine t_val (v := .bool (x17_10 != 0)) rfl rfl hE rfl (r_bin hE rfl rfl g_int b_neq) (fun a hE => ?_)
    refine t_nil ?_
    refine hK_11 _ _ ?_
    refine w_cond (x17_10 != 0) hE rfl (fun hb => ?_) (fun hb => ?_)
    · replace H := M.ite_t hb H
      refine w_seq (fun K hK_12 => ?_)
      refine t_region ?_
      refine t_val (v := .int .i64 x17_10) rfl rfl hE rfl (r_move hE rfl) (fun a hE => ?_)
      refine t_val (v := .int .i64 x17_10) rfl rfl hE rfl (r_assign hE rfl) (fun a hE => ?_)
      refine t_nil ?_
      refine hK_12 _ _ ?_
      refine w_ret ?_
      exact hret _ _ _ x17_10 _ hE hR (res_run hE rfl (RV.tmp rfl RV.nil)) rfl H
    · replace H := M.ite_f hb H
      refine w_skip ?_
      refine hK_8 _ _ ?_
      refine w_seq (fun K hK_13 => ?_)
      refine w_seq (fun K hK_14 => ?_)
      refine t_region ?_
      refine t_val (v := .pointer x0) rfl rfl hE rfl (r_move hE rfl) (fun a hE => ?_)
      refine t_call hE hR cl_disk_Disk_call rfl (S_disk_Disk_call x0) (M.unbind H) (fun x22_15 a w ea hR H => ?_)
      have hE := Env.put_some hE rfl ea; clear ea
      refine t_val (v := .int .i64 x22_15) rfl rfl hE rfl (r_assign hE rfl) (fun a hE => ?_)
      refine t_nil ?_
      refine hK_14 _ _ ?_
      refine w_seq (fun K hK_16 => ?_)
      refine t_region ?_
      refine t_val (v := .int .i64 x22_15) rfl rfl hE rfl (r_move hE rfl) (fun a hE => ?_)
      refine t_val (v := .bool (x22_15 != 0)) rfl rfl hE rfl (r_bin hE rfl rfl g_int b_neq) (fun a hE => ?_)
      refine t_nil ?_
      refine hK_16 _ _ ?_
      refine w_cond (x22_15 != 0) hE rfl (fun hb => ?_) (fun hb => ?_)
      · replace H := M.ite_t hb H
        refine w_seq (fun K hK_17 => ?_)
        refine t_region ?_
        refine t_val (v := .int .i64 x22_15) rfl rfl hE rfl (r_move hE rfl) (fun a hE => ?_)
        refine t_val (v := .int .i64 x22_15) rfl rfl hE rfl (r_assign hE rfl) (fun a hE => ?_)
        refine t_nil ?_
        refine hK_17 _ _ ?_
        refine w_ret ?_
        exact hret _ _ _ x22_15 _ hE hR (res_run hE rfl (RV.tmp rfl RV.nil)) rfl H
      · replace H := M.ite_f hb H
        refine w_skip ?_
        refine hK_13 _ _ ?_
        refine w_seq (fun K hK_18 => ?_)
        obtain ⟨x27_19, qx27_19, H⟩ := H
        obtain ⟨x29_20, qx29_20, H⟩ := H
        obtain ⟨x31_21, qx31_21, H⟩ := H
        have hT := tab_of tb21_10 rfl rfl
        refine d_start (fun w : World => (fun h : Heap => (hcell h ((x27_19).add 2) = some (.map x29_20)) ∧ (x31_21.size = 128 ∧ ∀ i, i < 128 → hcell h (Addr.add x5_2 i) = x31_21[i]?)) w.heap) [6] #[false, false, false, false, false, false, false] mo hR rfl rfl (fun w' e => by rw [e]; exact ⟨qx29_20, qx31_21⟩) (fun w hh hR hs => ?_)
        replace H := M.at hh H; clear hh
        refine d_pureg (i := 0) (v := .pointer x0) #[true, false, false, false, false, false, false] rfl rfl hT (by kernel_rfl) hE rfl (wanted_none rfl) (fun w => r_move hE rfl) (fun a hE => ?_)
        refine d_pureg (i := 1) (v := .pointer (some x27_19)) #[true, true, false, false, false, false, false] rfl rfl hT (by kernel_rfl) hE rfl (wanted_none rfl) (fun w => r_nilCheck hE (hx_eq rfl (congrArg Value.pointer qx27_19))) (fun a hE => ?_)
        refine d_pureg (i := 2) (v := .pointer (some ((x27_19).add 2))) #[true, true, true, false, false, false, false] rfl rfl hT (by kernel_rfl) hE rfl (wanted_none rfl) (fun w => r_fieldAddr hE rfl fd66_2) (fun a hE => ?_)
        refine d_pureg (i := 4) (v := .int .i64 x1) #[true, true, true, false, true, false, false] rfl rfl hT (by kernel_rfl) hE rfl (wanted_none rfl) (fun w => r_move hE rfl) (fun a hE => ?_)
        refine d_read (i := 3) (v := .map x29_20) #[true, true, true, true, true, false, false] rfl rfl hT (by kernel_rfl) hE rfl (wanted_none rfl) hs (fun w s => r_load hE rfl sc64 s.1) (fun a hE => ?_)
        refine d_read (i := 5) (v := .agg x31_21) #[true, true, true, true, true, true, false] rfl rfl hT (by kernel_rfl) hE rfl (wanted_none rfl) hs (fun w s => r_loadG hE rfl ag47 s.2) (fun a hE => ?_)
        obtain ⟨u_22, qu_22, H⟩ := H
        refine d_stlh (i := 6) #[true, true, true, true, true, true, true] rfl rfl hT (by kernel_rfl) rfl hE hR (wanted_none rfl) (r_update hE rfl rfl rfl un64 un3 rfl qu_22)  (fun a w hE hR hh => ?_)
        replace H := M.at hh H; clear hh
        refine d_done hT (by kernel_rfl) ?_
        refine hK_18 _ _ ?_
        refine w_seq (fun K hK_23 => ?_)
        refine t_region ?_
        refine t_val (v := .int .i64 0) rfl rfl hE rfl (r_assign hE rfl) (fun a hE => ?_)
        refine t_nil ?_
        refine hK_23 _ _ ?_
        refine w_ret ?_
        exact hret _ _ _ 0 _ hE hR (res_run hE rfl (RV.tmp rfl RV.nil)) rfl H

/-- (*ramble/disk.Disk).stay -/
theorem tb53_0 : tabAt Go.Proofs.Try.f53 0 [[], [0], [1], [2], [], [], [5], [6], [7], [], [8, 9], [3, 4, 0, 1, 2, 3, 4, 5, 6, 7, 8, 9, 10], [11, 10, 0, 1, 2, 3, 4, 5, 6, 7, 8, 9, 10]] [[], [0], [1], [2], [], [], [5], [6], [7], [], [8, 9], [3, 4], [10, 11]] [[], [0], [0, 1], [0, 1, 2], [], [], [5], [5, 6], [5, 6, 7], [], [5, 6, 7, 8, 9], [0, 1, 2, 3, 4, 5, 6, 7, 8, 9, 10], [0, 1, 2, 3, 4, 5, 6, 7, 8, 9, 10, 11]] = true := by kernel_rfl
def disk_Disk_stay (x0 : Option Addr) (x1 : Int) : M (Unit) := do
  let x5_2 ← nilP x0
  let x10_3 ← nilP x0
  let x7_4 ← ldL ((x5_2).add 0)
  let x12_5 ← ldMp ((x10_3).add 2)
  let x14_6 ← lkM (fun v : Array Value => .agg v) (.int .i64) (.int .i64 x1) (.agg (Array.replicate 128 (.int .u8 0) : Array Value)) x12_5
  let x15_7 ← ixL x7_4 x1 128
  M.need (x14_6.1.size = 128)
  stG x15_7 x14_6.1
  let x17_9 ← nilP x0
  let x19_10 ← ldL ((x17_9).add 1)
  let x21_11 ← ixL x19_10 x1 1
  stV x21_11 (.bool false)
  M.pure ()
theorem S_disk_Disk_stay (x0 : Option Addr) (x1 : Int) : Sound Go.Proofs.Try.prog 53 #[.pointer x0, .int .i64 x1] (fun (r : Unit) => .tuple #[]) (disk_Disk_stay x0 x1) := by
  refine sound_of [(0, .pointer x0), (1, .int .i64 x1)] Go.Proofs.Try.func53 rfl rfl (Nat.le_of_ble_eq_true rfl) (args_of ⟨rfl, rfl, trivial⟩) (fun w0 w Q R a hret hE hR H => ?_)
  unfold disk_Disk_stay at H
  refine w_seq (fun K hK_1 => ?_)
  obtain ⟨x5_2, qx5_2, H⟩ := H
  obtain ⟨x10_3, qx10_3, H⟩ := H
  obtain ⟨x7_4, qx7_4, H⟩ := H
  obtain ⟨x12_5, qx12_5, H⟩ := H
  obtain ⟨x14_6, qx14_6, H⟩ := H
  obtain ⟨x15_7, qx15_7, H⟩ := H
  have hT := tab_of tb53_0 rfl rfl
  refine d_start (fun w : World => (fun h : Heap => (hcell h ((x5_2).add 0) = some ((x7_4 : Sl).v)) ∧ (hcell h ((x10_3).add 2) = some (.map x12_5)) ∧ (∃ es res, mget h x12_5 = some es ∧ Instr.findNow (.int .i64) (.int .i64 x1) es.toList 0 = some res ∧ (fun v : Array Value => .agg v) x14_6.1 = (match res with | some p => p.2 | none => .agg (Array.replicate 128 (.int .u8 0) : Array Value)) ∧ x14_6.2 = res.isSome)) w.heap) [11, 12] #[false, false, false, false, false, false, false, false, false, false, false, false, false] mo hR rfl rfl (fun w' e => by rw [e]; exact ⟨qx7_4, qx12_5, qx14_6⟩) (fun w hh hR hs => ?_)
  replace H := M.at hh H; clear hh
  refine d_pureg (i := 0) (v := .pointer x0) #[true, false, false, false, false, false, false, false, false, false, false, false, false] rfl rfl hT (by kernel_rfl) hE rfl (wanted_none rfl) (fun w => r_move hE rfl) (fun a hE => ?_)
  refine d_pureg (i := 1) (v := .pointer (some x5_2)) #[true, true, false, false, false, false, false, false, false, false, false, false, false] rfl rfl hT (by kernel_rfl) hE rfl (wanted_none rfl) (fun w => r_nilCheck hE (hx_eq rfl (congrArg Value.pointer qx5_2))) (fun a hE => ?_)
  refine d_pureg (i := 2) (v := .pointer (some ((x5_2).add 0))) #[true, true, true, false, false, false, false, false, false, false, false, false, false] rfl rfl hT (by kernel_rfl) hE rfl (wanted_none rfl) (fun w => r_fieldAddr hE rfl fd66_0) (fun a hE => ?_)
  refine d_pureg (i := 4) (v := .int .i64 x1) #[true, true, true, false, true, false, false, false, false, false, false, false, false] rfl rfl hT (by kernel_rfl) hE rfl (wanted_none rfl) (fun w => r_move hE rfl) (fun a hE => ?_)
  refine d_pureg (i := 5) (v := .pointer x0) #[true, true, true, false, true, true, false, false, false, false, false, false, false] rfl rfl hT (by kernel_rfl) hE rfl (wanted_none rfl) (fun w => r_move hE rfl) (fun a hE => ?_)
  refine d_pureg (i := 6) (v := .pointer (some x10_3)) #[true, true, true, false, true, true, true, false, false, false, false, false, false] rfl rfl hT (by kernel_rfl) hE rfl (wanted_none rfl) (fun w => r_nilCheck hE (hx_eq rfl (congrArg Value.pointer qx10_3))) (fun a hE => ?_)
  refine d_pureg (i := 7) (v := .pointer (some ((x10_3).add 2))) #[true, true, true, false, true, true, true, true, false, false, false, false, false] rfl rfl hT (by kernel_rfl) hE rfl (wanted_none rfl) (fun w => r_fieldAddr hE rfl fd66_2) (fun a hE => ?_)
  refine d_pureg (i := 9) (v := .int .i64 x1) #[true, true, true, false, true, true, true, true, false, true, false, false, false] rfl rfl hT (by kernel_rfl) hE rfl (wanted_none rfl) (fun w => r_move hE rfl) (fun a hE => ?_)
  refine d_read (i := 3) (v := (x7_4 : Sl).v) #[true, true, true, true, true, true, true, true, false, true, false, false, false] rfl rfl hT (by kernel_rfl) hE rfl (wanted_none rfl) hs (fun w s => r_load hE rfl sc63 s.1) (fun a hE => ?_)
  refine d_read (i := 8) (v := .map x12_5) #[true, true, true, true, true, true, true, true, true, true, false, false, false] rfl rfl hT (by kernel_rfl) hE rfl (wanted_none rfl) hs (fun w s => r_load hE rfl sc64 s.2.1) (fun a hE => ?_)
  refine d_read (i := 10) (v := .agg x14_6.1) #[true, true, true, true, true, true, true, true, true, true, true, false, false] rfl rfl hT (by kernel_rfl) hE rfl (wanted_none rfl) hs (fun w s => r_lookup1 (dec := (fun v : Array Value => .agg v)) hE rfl rfl un64 un3 rfl zr47 s.2.2) (fun a hE => ?_)
  refine d_pureg (i := 11) (v := .pointer (some x15_7)) #[true, true, true, true, true, true, true, true, true, true, true, true, false] rfl rfl hT (by kernel_rfl) hE rfl (wanted_none rfl) (fun w => r_indexAddrL hE rfl rfl un63 sz47 qx15_7) (fun a hE => ?_)
  obtain ⟨qz, H⟩ := H
  obtain ⟨u_8, qu_8, H⟩ := H
  refine d_stlh (i := 12) #[true, true, true, true, true, true, true, true, true, true, true, true, true] rfl rfl hT (by kernel_rfl) rfl hE hR (wanted_none rfl) (r_storeG hE rfl rfl sz47 qz qu_8)  (fun a w hE hR hh => ?_)
  replace H := M.at hh H; clear hh
  refine d_done hT (by kernel_rfl) ?_
  refine hK_1 _ _ ?_
  refine t_region ?_
  refine t_val (v := .pointer x0) rfl rfl hE rfl (r_move hE rfl) (fun a hE => ?_)
  obtain ⟨x17_9, qx17_9, H⟩ := H
  refine t_val (v := .pointer (some x17_9)) rfl rfl hE rfl (r_nilCheck hE (hx_eq rfl (congrArg Value.pointer qx17_9))) (fun a hE => ?_)
  refine t_val (v := .pointer (some ((x17_9).add 1))) rfl rfl hE rfl (r_fieldAddr hE rfl fd66_1) (fun a hE => ?_)
  obtain ⟨x19_10, qx19_10, H⟩ := H
  refine t_val (v := (x19_10 : Sl).v) rfl rfl hE rfl (r_load hE rfl sc45 qx19_10) (fun a hE => ?_)
  refine t_val (v := .int .i64 x1) rfl rfl hE rfl (r_move hE rfl) (fun a hE => ?_)
  obtain ⟨x21_11, qx21_11, H⟩ := H
  refine t_val (v := .pointer (some x21_11)) rfl rfl hE rfl (r_indexAddrL hE rfl rfl un45 sz4 qx21_11) (fun a hE => ?_)
  obtain ⟨u_12, qu_12, H⟩ := H
  refine t_sth rfl rfl hE hR (r_store hE rfl rfl sz4 qu_12) (fun a w hE hR hh => ?_)
  replace H := M.at hh H; clear hh
  refine t_nil ?_
  exact hret _ _ _ () _ hE hR (res_run hE rfl RV.nil) rfl H

/-- (*ramble/disk.Disk).Flush -/
def disk_Disk_Flush_l1 (c0_17 : Option Addr) (c20_18 : Addr) (self1 : (Unit) → M (Int)) : (Unit) → M (Int) := fun s => match s with
  | () => do
    let x21_21 ← nxM c20_18
    let x22_22 ← exB x21_21 0
    M.ite x22_22 (do
      let x23_25 ← enM c20_18
      let x24_26 ← exI .i64 x23_25.1
      let x27_27 ← disk_Disk_stay c0_17 x24_26
      self1 ()
      ) (do
      let x29_29 ← nilP c0_17
      let x31_30 ← ldMp ((x29_29).add 2)
      let u_31 ← clM x31_30
      M.pure 0
      )
def disk_Disk_Flush (x0 : Option Addr) : M (Int) := do
  let x7_4 ← disk_Disk_can x0
  M.ite (x7_4 != 0) (do
    M.pure x7_4
    ) (do
    let x12_9 ← disk_Disk_call x0
    M.ite (x12_9 != 0) (do
      M.pure x12_9
      ) (do
      let x17_14 ← nilP x0
      let x19_15 ← ldMp ((x17_14).add 2)
      let x20_16 ← rgM x19_15
      M.loop (disk_Disk_Flush_l1 x0 x20_16) ()
      )
    )
theorem S_disk_Disk_Flush (x0 : Option Addr) : Sound Go.Proofs.Try.prog 23 #[.pointer x0] (fun (r : Int) => .int .i64 r) (disk_Disk_Flush x0) := by
  refine sound_of [(0, .pointer x0)] Go.Proofs.Try.func23 rfl rfl (Nat.le_of_ble_eq_true rfl) (args_of ⟨rfl, trivial⟩) (fun w0 w Q R a hret hE hR H => ?_)
  unfold disk_Disk_Flush at H
  refine w_seq (fun K hK_1 => ?_)
  refine t_region ?_
  refine t_val (v := .int .i64 0) rfl rfl hE rfl (r_assign hE rfl) (fun a hE => ?_)
  refine t_nil ?_
  refine hK_1 _ _ ?_
  refine w_seq (fun K hK_2 => ?_)
  refine w_seq (fun K hK_3 => ?_)
  refine t_region ?_
  refine t_val (v := .pointer x0) rfl rfl hE rfl (r_move hE rfl) (fun a hE => ?_)
  refine t_call hE hR cl_disk_Disk_can rfl (S_disk_Disk_can x0) (M.unbind H) (fun x7_4 a w ea hR H => ?_)
  have hE := Env.put_some hE rfl ea; clear ea
  refine t_val (v := .int .i64 x7_4) rfl rfl hE rfl (r_assign hE rfl) (fun a hE => ?_)
  refine t_nil ?_
  refine hK_3 _ _ ?_
  refine w_seq (fun K hK_5 => ?_)
  refine t_region ?_
  refine t_val (v := .int .i64 x7_4) rfl rfl hE rfl (r_move hE rfl) (fun a hE => ?_)
  refine t_val (v := .bool (x7_4 != 0)) rfl rfl hE rfl (r_bin hE rfl rfl g_int b_neq) (fun a hE => ?_)
  refine t_nil ?_
  refine hK_5 _ _ ?_
  refine w_cond (x7_4 != 0) hE rfl (fun hb => ?_) (fun hb => ?_)
  · replace H := M.ite_t hb H
    refine w_seq (fun K hK_6 => ?_)
    refine t_region ?_
    refine t_val (v := .int .i64 x7_4) rfl rfl hE rfl (r_move hE rfl) (fun a hE => ?_)
    refine t_val (v := .int .i64 x7_4) rfl rfl hE rfl (r_assign hE rfl) (fun a hE => ?_)
    refine t_nil ?_
    refine hK_6 _ _ ?_
    refine w_ret ?_
    exact hret _ _ _ x7_4 _ hE hR (res_run hE rfl (RV.tmp rfl RV.nil)) rfl H
  · replace H := M.ite_f hb H
    refine w_skip ?_
    refine hK_2 _ _ ?_
    refine w_seq (fun K hK_7 => ?_)
    refine w_seq (fun K hK_8 => ?_)
    refine t_region ?_
    refine t_val (v := .pointer x0) rfl rfl hE rfl (r_move hE rfl) (fun a hE => ?_)
    refine t_call hE hR cl_disk_Disk_call rfl (S_disk_Disk_call x0) (M.unbind H) (fun x12_9 a w ea hR H => ?_)
    have hE := Env.put_some hE rfl ea; clear ea
    refine t_val (v := .int .i64 x12_9) rfl rfl hE rfl (r_assign hE rfl) (fun a hE => ?_)
    refine t_nil ?_
    refine hK_8 _ _ ?_
    refine w_seq (fun K hK_10 => ?_)
    refine t_region ?_
    refine t_val (v := .int .i64 x12_9) rfl rfl hE rfl (r_move hE rfl) (fun a hE => ?_)
    refine t_val (v := .bool (x12_9 != 0)) rfl rfl hE rfl (r_bin hE rfl rfl g_int b_neq) (fun a hE => ?_)
    refine t_nil ?_
    refine hK_10 _ _ ?_
    refine w_cond (x12_9 != 0) hE rfl (fun hb => ?_) (fun hb => ?_)
    · replace H := M.ite_t hb H
      refine w_seq (fun K hK_11 => ?_)
      refine t_region ?_
      refine t_val (v := .int .i64 x12_9) rfl rfl hE rfl (r_move hE rfl) (fun a hE => ?_)
      refine t_val (v := .int .i64 x12_9) rfl rfl hE rfl (r_assign hE rfl) (fun a hE => ?_)
      refine t_nil ?_
      refine hK_11 _ _ ?_
      refine w_ret ?_
      exact hret _ _ _ x12_9 _ hE hR (res_run hE rfl (RV.tmp rfl RV.nil)) rfl H
    · replace H := M.ite_f hb H
      refine w_skip ?_
      refine hK_7 _ _ ?_
      refine w_seq (fun K hK_12 => ?_)
      refine w_seq (fun K hK_13 => ?_)
      refine t_region ?_
      refine t_val (v := .pointer x0) rfl rfl hE rfl (r_move hE rfl) (fun a hE => ?_)
      obtain ⟨x17_14, qx17_14, H⟩ := H
      refine t_val (v := .pointer (some x17_14)) rfl rfl hE rfl (r_nilCheck hE (hx_eq rfl (congrArg Value.pointer qx17_14))) (fun a hE => ?_)
      refine t_val (v := .pointer (some ((x17_14).add 2))) rfl rfl hE rfl (r_fieldAddr hE rfl fd66_2) (fun a hE => ?_)
      obtain ⟨x19_15, qx19_15, H⟩ := H
      refine t_val (v := .map x19_15) rfl rfl hE rfl (r_load hE rfl sc64 qx19_15) (fun a hE => ?_)
      obtain ⟨x20_16, qx20_16, H⟩ := H
      refine t_valh (v := .pointer (some x20_16)) rfl rfl hE rfl hR (r_range hE rfl un64 qx20_16) (fun a w hE hR hh => ?_)
      replace H := M.at hh H; clear hh
      refine t_nil ?_
      refine hK_13 _ _ ?_
      refine w_block ?_
      refine l_loop (fun (s : Unit) => (⟨32, []⟩ : Frm)) (fun (s : Unit) => [(0, .pointer x0), (20, .pointer (some x20_16))]) H (hE.cut (.cons rfl (.cons rfl Subs.nil))) hR (fun Y self1 hY_19 s a w hE hR H => ?_)
      cases s
      replace hE : Env (⟨32, []⟩ : Frm) a [(0, .pointer x0), (20, .pointer (some x20_16))] := hE
      replace H : (disk_Disk_Flush_l1 x0 x20_16 self1 ()).wp w.heap Q := H
      unfold disk_Disk_Flush_l1 at H
      refine w_seq (fun K hK_20 => ?_)
      refine t_region ?_
      refine t_ex (fun x21_21 => x21_21) rfl rfl hR (M.unbind H) (fun Q H => nx_run hE rfl H) (fun x21_21 a w ea hR H => ?_)
      have hE := Env.put_some hE rfl ea; clear ea
      obtain ⟨x22_22, qx22_22, H⟩ := H
      refine t_val (v := .bool x22_22) rfl rfl hE rfl (ex_run hE rfl qx22_22) (fun a hE => ?_)
      refine t_nil ?_
      refine hK_20 _ _ ?_
      refine w_seq (fun K hK_23 => ?_)
      refine w_cond x22_22 hE rfl (fun hb => ?_) (fun hb => ?_)
      · replace H := M.ite_t hb H
        refine w_skip ?_
        refine hK_23 _ _ ?_
        refine w_block ?_
        refine w_seq (fun K hK_24 => ?_)
        refine t_region ?_
        obtain ⟨x23_25, qx23_25, H⟩ := H
        refine t_val (v := .tuple #[x23_25.1, x23_25.2]) rfl rfl hE rfl (r_entry hE rfl qx23_25) (fun a hE => ?_)
        obtain ⟨x24_26, qx24_26, H⟩ := H
        refine t_val (v := .int .i64 x24_26) rfl rfl hE rfl (r_extract hE rfl (congrArg some qx24_26)) (fun a hE => ?_)
        refine t_val (v := .int .i64 x24_26) rfl rfl hE rfl (r_assign hE rfl) (fun a hE => ?_)
        refine t_nil ?_
        refine hK_24 _ _ ?_
        refine t_region ?_
        refine t_val (v := .pointer x0) rfl rfl hE rfl (r_move hE rfl) (fun a hE => ?_)
        refine t_val (v := .int .i64 x24_26) rfl rfl hE rfl (r_move hE rfl) (fun a hE => ?_)
        refine t_call hE hR cl_disk_Disk_stay rfl (S_disk_Disk_stay x0 x24_26) (M.unbind H) (fun x27_27 a w ea hR H => ?_)
        have hE := Env.put_some hE rfl ea; clear ea
        refine t_nil ?_
        exact hY_19 () _ _ (hE.cut (.cons rfl (.cons rfl Subs.nil))) hR H
      · replace H := M.ite_f hb H
        refine w_exit ?_
        refine Xu.same ?_
        refine hK_12 _ _ ?_
        refine w_seq (fun K hK_28 => ?_)
        refine t_region ?_
        refine t_val (v := .pointer x0) rfl rfl hE rfl (r_move hE rfl) (fun a hE => ?_)
        obtain ⟨x29_29, qx29_29, H⟩ := H
        refine t_val (v := .pointer (some x29_29)) rfl rfl hE rfl (r_nilCheck hE (hx_eq rfl (congrArg Value.pointer qx29_29))) (fun a hE => ?_)
        refine t_val (v := .pointer (some ((x29_29).add 2))) rfl rfl hE rfl (r_fieldAddr hE rfl fd66_2) (fun a hE => ?_)
        obtain ⟨x31_30, qx31_30, H⟩ := H
        refine t_val (v := .map x31_30) rfl rfl hE rfl (r_load hE rfl sc64 qx31_30) (fun a hE => ?_)
        obtain ⟨u_31, qu_31, H⟩ := H
        refine t_valnh (v := .tuple #[]) rfl rfl hE hR (r_clearM hE rfl un64 qu_31) (fun a w hE hR hh => ?_)
        replace H := M.at hh H; clear hh
        refine t_nil ?_
        refine hK_28 _ _ ?_
        refine w_seq (fun K hK_32 => ?_)
        refine t_region ?_
        refine t_val (v := .int .i64 0) rfl rfl hE rfl (r_assign hE rfl) (fun a hE => ?_)
        refine t_nil ?_
        refine hK_32 _ _ ?_
        refine w_ret ?_
        exact hret _ _ _ 0 _ hE hR (res_run hE rfl (RV.tmp rfl RV.nil)) rfl H

end Gx
namespace Gx
open Go
set_option linter.unusedVariables false
set_option maxRecDepth 100000
/-- (*ramble/disk.Disk).Sectors -/
def disk_Disk_Sectors (x0 : Option Addr) : M (Int) := do
  let x4_4 ← disk_Disk_none x0
  M.ite x4_4 (do
    M.pure 0
    ) (do
    let x6_7 ← nilP x0
    let x8_8 ← ldL ((x6_7).add 0)
    M.pure (x8_8.len : Int)
    )
theorem S_disk_Disk_Sectors (x0 : Option Addr) : Sound Go.Proofs.Try.prog 33 #[.pointer x0] (fun (r : Int) => .int .i64 r) (disk_Disk_Sectors x0) := by
  refine sound_of [(0, .pointer x0)] Go.Proofs.Try.func33 rfl rfl (Nat.le_of_ble_eq_true rfl) (args_of ⟨rfl, trivial⟩) (fun w0 w Q R a hret hE hR H => ?_)
  unfold disk_Disk_Sectors at H
  refine w_seq (fun K hK_1 => ?_)
  refine t_region ?_
  refine t_val (v := .int .i64 0) rfl rfl hE rfl (r_assign hE rfl) (fun a hE => ?_)
  refine t_nil ?_
  refine hK_1 _ _ ?_
  refine w_seq (fun K hK_2 => ?_)
  refine w_seq (fun K hK_3 => ?_)
  refine t_region ?_
  refine t_val (v := .pointer x0) rfl rfl hE rfl (r_move hE rfl) (fun a hE => ?_)
  refine t_call hE hR cl_disk_Disk_none rfl (S_disk_Disk_none x0) (M.unbind H) (fun x4_4 a w ea hR H => ?_)
  have hE := Env.put_some hE rfl ea; clear ea
  refine t_nil ?_
  refine hK_3 _ _ ?_
  refine w_cond x4_4 hE rfl (fun hb => ?_) (fun hb => ?_)
  · replace H := M.ite_t hb H
    refine w_seq (fun K hK_5 => ?_)
    refine t_region ?_
    refine t_val (v := .int .i64 0) rfl rfl hE rfl (r_assign hE rfl) (fun a hE => ?_)
    refine t_nil ?_
    refine hK_5 _ _ ?_
    refine w_ret ?_
    exact hret _ _ _ 0 _ hE hR (res_run hE rfl (RV.tmp rfl RV.nil)) rfl H
  · replace H := M.ite_f hb H
    refine w_skip ?_
    refine hK_2 _ _ ?_
    refine w_seq (fun K hK_6 => ?_)
    refine t_region ?_
    refine t_val (v := .pointer x0) rfl rfl hE rfl (r_move hE rfl) (fun a hE => ?_)
    obtain ⟨x6_7, qx6_7, H⟩ := H
    refine t_val (v := .pointer (some x6_7)) rfl rfl hE rfl (r_nilCheck hE (hx_eq rfl (congrArg Value.pointer qx6_7))) (fun a hE => ?_)
    refine t_val (v := .pointer (some ((x6_7).add 0))) rfl rfl hE rfl (r_fieldAddr hE rfl fd66_0) (fun a hE => ?_)
    obtain ⟨x8_8, qx8_8, H⟩ := H
    refine t_val (v := (x8_8 : Sl).v) rfl rfl hE rfl (r_load hE rfl sc63 qx8_8) (fun a hE => ?_)
    refine t_val (v := .int .i64 (x8_8.len : Int)) rfl rfl hE rfl (r_len hE rfl 47 un63) (fun a hE => ?_)
    refine t_val (v := .int .i64 (x8_8.len : Int)) rfl rfl hE rfl (r_assign hE rfl) (fun a hE => ?_)
    refine t_nil ?_
    refine hK_6 _ _ ?_
    refine w_ret ?_
    exact hret _ _ _ (x8_8.len : Int) _ hE hR (res_run hE rfl (RV.tmp rfl RV.nil)) rfl H

/-- slices.Clone[[]byte,byte] -/
def slices_Clone_slbyte_byte (x0 : Sl) : M (Sl) := do
  M.ite ((x0).base.isNone) (do
    M.pure Sl.nil
    ) (do
    let x5_6 ← bdL ty_uint8 0 #[]
    let x7_7 ← apL ty_uint8 1 1 (#[.int .u8 0] : Array Value) x5_6 x0
    M.pure x7_7
    )
theorem S_slices_Clone_slbyte_byte (x0 : Sl) : Sound Go.Proofs.Try.prog 38 #[(x0 : Sl).v] (fun (r : Sl) => (r : Sl).v) (slices_Clone_slbyte_byte x0) := by
  refine sound_of [(0, (x0 : Sl).v)] Go.Proofs.Try.func38 rfl rfl (Nat.le_of_ble_eq_true rfl) (args_of ⟨rfl, trivial⟩) (fun w0 w Q R a hret hE hR H => ?_)
  unfold slices_Clone_slbyte_byte at H
  refine w_seq (fun K hK_1 => ?_)
  refine t_region ?_
  refine t_val (v := (Sl.nil : Sl).v) rfl rfl hE rfl (r_assign hE rfl) (fun a hE => ?_)
  refine t_nil ?_
  refine hK_1 _ _ ?_
  refine w_seq (fun K hK_2 => ?_)
  refine w_seq (fun K hK_3 => ?_)
  refine t_region ?_
  refine t_val (v := (x0 : Sl).v) rfl rfl hE rfl (r_move hE rfl) (fun a hE => ?_)
  refine t_val (v := .bool ((x0).base.isNone)) rfl rfl hE rfl (r_bin hE rfl rfl (g_sl (v := Sl.nil)) (b_eqlL un30)) (fun a hE => ?_)
  refine t_nil ?_
  refine hK_3 _ _ ?_
  refine w_cond ((x0).base.isNone) hE rfl (fun hb => ?_) (fun hb => ?_)
  · replace H := M.ite_t hb H
    refine w_seq (fun K hK_4 => ?_)
    refine t_region ?_
    refine t_val (v := (Sl.nil : Sl).v) rfl rfl hE rfl (r_assign hE rfl) (fun a hE => ?_)
    refine t_nil ?_
    refine hK_4 _ _ ?_
    refine w_ret ?_
    exact hret _ _ _ Sl.nil _ hE hR (res_run hE rfl (RV.tmp rfl RV.nil)) rfl H
  · replace H := M.ite_f hb H
    refine w_skip ?_
    refine hK_2 _ _ ?_
    refine w_seq (fun K hK_5 => ?_)
    refine t_region ?_
    obtain ⟨x5_6, qx5_6, H⟩ := H
    refine t_valh (v := (x5_6 : Sl).v) rfl rfl hE rfl hR (r_buildL (cells := #[]) hE rfl un30 sz5 zr5 rfl rfl qx5_6) (fun a w hE hR hh => ?_)
    replace H := M.at hh H; clear hh
    refine t_val (v := (x0 : Sl).v) rfl rfl hE rfl (r_move hE rfl) (fun a hE => ?_)
    refine t_ex (fun x7_7 => (x7_7 : Sl).v) rfl rfl hR (M.unbind H) (fun Q H => ap_run hE rfl rfl ap30 H) (fun x7_7 a w ea hR H => ?_)
    have hE := Env.put_some hE rfl ea; clear ea
    refine t_val (v := (x7_7 : Sl).v) rfl rfl hE rfl (r_assign hE rfl) (fun a hE => ?_)
    refine t_nil ?_
    refine hK_5 _ _ ?_
    refine w_ret ?_
    exact hret _ _ _ x7_7 _ hE hR (res_run hE rfl (RV.tmp rfl RV.nil)) rfl H

/-- ramble/sector.big -/
def sector_big_l1 (c0_3 : Int) (c1_4 : Sl) (c6_5 : Int) (self1 : (Int) → M (Unit)) : (Int) → M (Unit) := fun s => match s with
  | x7_2 => do
    M.ite (decide (x7_2 < c6_5)) (do
      let x19_11 ← pShr .u64 c0_3 (IntKind.wrap .i64 (8 * (IntKind.wrap .i64 ((IntKind.wrap .i64 ((c1_4.len : Int) - 1)) - x7_2))))
      let x21_12 ← ixL c1_4 x7_2 1
      stV x21_12 (.int .u8 (IntKind.wrap .u8 x19_11))
      self1 (IntKind.wrap .i64 (x7_2 + 1))
      ) (do
      M.pure ()
      )
def sector_big (x0 : Int) (x1 : Sl) : M (Unit) := do
  M.loop (sector_big_l1 x0 x1 (x1.len : Int)) 0
theorem S_sector_big (x0 : Int) (x1 : Sl) : Sound Go.Proofs.Try.prog 77 #[.int .u64 x0, (x1 : Sl).v] (fun (r : Unit) => .tuple #[]) (sector_big x0 x1) := by
  refine sound_of [(0, .int .u64 x0), (1, (x1 : Sl).v)] Go.Proofs.Try.func77 rfl rfl (Nat.le_of_ble_eq_true rfl) (args_of ⟨rfl, rfl, trivial⟩) (fun w0 w Q R a hret hE hR H => ?_)
  unfold sector_big at H
  refine w_seq (fun K hK_1 => ?_)
  refine t_region ?_
  refine t_val (v := (x1 : Sl).v) rfl rfl hE rfl (r_move hE rfl) (fun a hE => ?_)
  refine t_val (v := .int .i64 (x1.len : Int)) rfl rfl hE rfl (r_len hE rfl 5 un30) (fun a hE => ?_)
  refine t_val (v := .int .i64 0) rfl rfl hE rfl (r_move hE rfl) (fun a hE => ?_)
  refine t_nil ?_
  refine hK_1 _ _ ?_
  refine w_block ?_
  refine l_loop (fun (s : Int) => (⟨23, []⟩ : Frm)) (fun (s : Int) => [(0, .int .u64 x0), (1, (x1 : Sl).v), (6, .int .i64 (x1.len : Int)), (7, .int .i64 s)]) H (hE.cut (.cons rfl (.cons rfl (.cons rfl (.cons rfl Subs.nil))))) hR (fun Y self1 hY_6 x7_2 a w hE hR H => ?_)
  replace hE : Env (⟨23, []⟩ : Frm) a [(0, .int .u64 x0), (1, (x1 : Sl).v), (6, .int .i64 (x1.len : Int)), (7, .int .i64 x7_2)] := hE
  replace H : (sector_big_l1 x0 x1 (x1.len : Int) self1 x7_2).wp w.heap Q := H
  unfold sector_big_l1 at H
  refine w_seq (fun K hK_7 => ?_)
  refine t_region ?_
  refine t_val (v := .bool (decide (x7_2 < (x1.len : Int)))) rfl rfl hE rfl (r_bin hE rfl rfl g_int b_lss) (fun a hE => ?_)
  refine t_nil ?_
  refine hK_7 _ _ ?_
  refine w_seq (fun K hK_8 => ?_)
  refine w_cond (decide (x7_2 < (x1.len : Int))) hE rfl (fun hb => ?_) (fun hb => ?_)
  · replace H := M.ite_t hb H
    refine w_skip ?_
    refine hK_8 _ _ ?_
    refine w_seq (fun K hK_9 => ?_)
    refine w_block ?_
    refine w_seq (fun K hK_10 => ?_)
    refine t_region ?_
    refine t_val (v := .int .i64 x7_2) rfl rfl hE rfl (r_move hE rfl) (fun a hE => ?_)
    refine t_val (v := .int .i64 x7_2) rfl rfl hE rfl (r_assign hE rfl) (fun a hE => ?_)
    refine t_nil ?_
    refine hK_10 _ _ ?_
    refine t_region ?_
    refine t_val (v := (x1 : Sl).v) rfl rfl hE rfl (r_move hE rfl) (fun a hE => ?_)
    refine t_val (v := .int .i64 x7_2) rfl rfl hE rfl (r_move hE rfl) (fun a hE => ?_)
    refine t_val (v := .int .u64 x0) rfl rfl hE rfl (r_move hE rfl) (fun a hE => ?_)
    refine t_val (v := (x1 : Sl).v) rfl rfl hE rfl (r_move hE rfl) (fun a hE => ?_)
    refine t_val (v := .int .i64 (x1.len : Int)) rfl rfl hE rfl (r_len hE rfl 5 un30) (fun a hE => ?_)
    refine t_val (v := .int .i64 (IntKind.wrap .i64 ((x1.len : Int) - 1))) rfl rfl hE rfl (r_bin hE rfl rfl g_int b_sub) (fun a hE => ?_)
    refine t_val (v := .int .i64 x7_2) rfl rfl hE rfl (r_move hE rfl) (fun a hE => ?_)
    refine t_val (v := .int .i64 (IntKind.wrap .i64 ((IntKind.wrap .i64 ((x1.len : Int) - 1)) - x7_2))) rfl rfl hE rfl (r_bin hE rfl rfl g_int b_sub) (fun a hE => ?_)
    refine t_val (v := .int .i64 (IntKind.wrap .i64 (8 * (IntKind.wrap .i64 ((IntKind.wrap .i64 ((x1.len : Int) - 1)) - x7_2))))) rfl rfl hE rfl (r_bin hE rfl rfl g_int b_mul) (fun a hE => ?_)
    obtain ⟨x19_11, qx19_11, H⟩ := H
    refine t_val (v := .int .u64 x19_11) rfl rfl hE rfl (r_bin hE rfl rfl g_int (b_shr qx19_11)) (fun a hE => ?_)
    refine t_val (v := .int .u8 (IntKind.wrap .u8 x19_11)) rfl rfl hE rfl (r_convI hE rfl un106 un5) (fun a hE => ?_)
    obtain ⟨x21_12, qx21_12, H⟩ := H
    refine t_val (v := .pointer (some x21_12)) rfl rfl hE rfl (r_indexAddrL hE rfl rfl un30 sz5 qx21_12) (fun a hE => ?_)
    obtain ⟨u_13, qu_13, H⟩ := H
    refine t_sth rfl rfl hE hR (r_store hE rfl rfl sz5 qu_13) (fun a w hE hR hh => ?_)
    replace H := M.at hh H; clear hh
    refine t_nil ?_
    refine hK_9 _ _ ?_
    refine t_region ?_
    refine t_val (v := .int .i64 (IntKind.wrap .i64 (x7_2 + 1))) rfl rfl hE rfl (r_bin hE rfl rfl g_int b_add) (fun a hE => ?_)
    refine t_val (v := .int .i64 (IntKind.wrap .i64 (x7_2 + 1))) rfl rfl hE rfl (r_move hE rfl) (fun a hE => ?_)
    refine t_nil ?_
    exact hY_6 (IntKind.wrap .i64 (x7_2 + 1)) _ _ (hE.cut (.cons rfl (.cons rfl (.cons rfl (.cons rfl Subs.nil))))) hR H
  · replace H := M.ite_f hb H
    refine w_exit ?_
    refine Xu.same ?_
    exact hret _ _ _ () _ hE hR (res_run hE rfl RV.nil) rfl H

/-- ramble/sector.Sum -/
def sector_Sum_j1 (self2 : (Int × Int) → M (Int)) (c17_30 : Int) (x3_26 : Int) : M (Int) := do
  self2 (x3_26, IntKind.wrap .i64 (c17_30 + 1))
def sector_Sum_l2 (self1 : (Int × Int) → M (Int)) (c9_22 : Int) (self2 : (Int × Int) → M (Int)) : (Int × Int) → M (Int) := fun s => match s with
  | (x3_18, x17_19) => do
    M.ite (decide (x17_19 < 8)) (do
      M.ite ((iAnd .u32 x3_18 1) == 1) (do
        sector_Sum_j1 self2 x17_19 (iXor .u32 (iShr .u32 x3_18 1) 3988292384)
        ) (do
        sector_Sum_j1 self2 x17_19 (iShr .u32 x3_18 1)
        )
      ) (do
      self1 (x3_18, IntKind.wrap .i64 (c9_22 + 1))
      )
def sector_Sum_l1 (c7_7 : Sl) (c8_8 : Int) (self1 : (Int × Int) → M (Int)) : (Int × Int) → M (Int) := fun s => match s with
  | (x3_5, x9_6) => do
    M.ite (decide (x9_6 < c8_8)) (do
      let x11_14 ← ixL c7_7 x9_6 1
      let x12_15 ← ldI .u8 x11_14
      M.loop (sector_Sum_l2 self1 x9_6) (iXor .u32 x3_5 (IntKind.wrap .u32 x12_15), 0)
      ) (do
      M.pure (iNot .u32 x3_5)
      )
def sector_Sum (x0 : Sl) : M (Int) := do
  M.loop (sector_Sum_l1 x0 (x0.len : Int)) (4294967295, 0)
theorem S_sector_Sum (x0 : Sl) : Sound Go.Proofs.Try.prog 78 #[(x0 : Sl).v] (fun (r : Int) => .int .u32 r) (sector_Sum x0) := by
  refine sound_of [(0, (x0 : Sl).v)] Go.Proofs.Try.func78 rfl rfl (Nat.le_of_ble_eq_true rfl) (args_of ⟨rfl, trivial⟩) (fun w0 w Q R a hret hE hR H => ?_)
  unfold sector_Sum at H
  refine w_seq (fun K hK_1 => ?_)
  refine t_region ?_
  refine t_val (v := .int .u32 0) rfl rfl hE rfl (r_assign hE rfl) (fun a hE => ?_)
  refine t_nil ?_
  refine hK_1 _ _ ?_
  refine w_seq (fun K hK_2 => ?_)
  refine t_region ?_
  refine t_val (v := .int .u32 4294967295) rfl rfl hE rfl (r_assign hE rfl) (fun a hE => ?_)
  refine t_nil ?_
  refine hK_2 _ _ ?_
  refine w_seq (fun K hK_3 => ?_)
  refine w_seq (fun K hK_4 => ?_)
  refine t_region ?_
  refine t_val (v := (x0 : Sl).v) rfl rfl hE rfl (r_move hE rfl) (fun a hE => ?_)
  refine t_val (v := .int .i64 (x0.len : Int)) rfl rfl hE rfl (r_len hE rfl 5 un30) (fun a hE => ?_)
  refine t_val (v := .int .i64 0) rfl rfl hE rfl (r_move hE rfl) (fun a hE => ?_)
  refine t_nil ?_
  refine hK_4 _ _ ?_
  refine w_block ?_
  refine l_loop (fun (s : Int × Int) => (⟨31, []⟩ : Frm)) (fun (s : Int × Int) => [(3, .int .u32 s.1), (7, (x0 : Sl).v), (8, .int .i64 (x0.len : Int)), (9, .int .i64 s.2)]) H (hE.cut (.cons rfl (.cons rfl (.cons rfl (.cons rfl Subs.nil))))) hR (fun Y self1 hY_9 s a w hE hR H => ?_)
  rcases s with ⟨x3_5, x9_6⟩
  replace hE : Env (⟨31, []⟩ : Frm) a [(3, .int .u32 x3_5), (7, (x0 : Sl).v), (8, .int .i64 (x0.len : Int)), (9, .int .i64 x9_6)] := hE
  replace H : (sector_Sum_l1 x0 (x0.len : Int) self1 (x3_5, x9_6)).wp w.heap Q := H
  unfold sector_Sum_l1 at H
  refine w_seq (fun K hK_10 => ?_)
  refine t_region ?_
  refine t_val (v := .bool (decide (x9_6 < (x0.len : Int)))) rfl rfl hE rfl (r_bin hE rfl rfl g_int b_lss) (fun a hE => ?_)
  refine t_nil ?_
  refine hK_10 _ _ ?_
  refine w_seq (fun K hK_11 => ?_)
  refine w_cond (decide (x9_6 < (x0.len : Int))) hE rfl (fun hb => ?_) (fun hb => ?_)
  · replace H := M.ite_t hb H
    refine w_skip ?_
    refine hK_11 _ _ ?_
    refine w_seq (fun K hK_12 => ?_)
    refine w_block ?_
    refine w_seq (fun K hK_13 => ?_)
    refine t_region ?_
    obtain ⟨x11_14, qx11_14, H⟩ := H
    refine t_val (v := .pointer (some x11_14)) rfl rfl hE rfl (r_indexAddrL hE rfl rfl un30 sz5 qx11_14) (fun a hE => ?_)
    obtain ⟨x12_15, qx12_15, H⟩ := H
    refine t_val (v := .int .u8 x12_15) rfl rfl hE rfl (r_load hE rfl sc5 qx12_15) (fun a hE => ?_)
    refine t_val (v := .int .u8 x12_15) rfl rfl hE rfl (r_assign hE rfl) (fun a hE => ?_)
    refine t_nil ?_
    refine hK_13 _ _ ?_
    refine w_seq (fun K hK_16 => ?_)
    refine t_region ?_
    refine t_val (v := .int .u32 x3_5) rfl rfl hE rfl (r_move hE rfl) (fun a hE => ?_)
    refine t_val (v := .int .u8 x12_15) rfl rfl hE rfl (r_move hE rfl) (fun a hE => ?_)
    refine t_val (v := .int .u32 (IntKind.wrap .u32 x12_15)) rfl rfl hE rfl (r_convI hE rfl un5 un49) (fun a hE => ?_)
    refine t_val (v := .int .u32 (iXor .u32 x3_5 (IntKind.wrap .u32 x12_15))) rfl rfl hE rfl (r_bin hE rfl rfl g_int b_xor) (fun a hE => ?_)
    refine t_val (v := .int .u32 (iXor .u32 x3_5 (IntKind.wrap .u32 x12_15))) rfl rfl hE rfl (r_assign hE rfl) (fun a hE => ?_)
    refine t_nil ?_
    refine hK_16 _ _ ?_
    refine w_seq (fun K hK_17 => ?_)
    refine t_region ?_
    refine t_val (v := .int .i64 0) rfl rfl hE rfl (r_move hE rfl) (fun a hE => ?_)
    refine t_nil ?_
    refine hK_17 _ _ ?_
    refine w_block ?_
    refine l_loop (fun (s : Int × Int) => (⟨31, []⟩ : Frm)) (fun (s : Int × Int) => [(3, .int .u32 s.1), (7, (x0 : Sl).v), (8, .int .i64 (x0.len : Int)), (9, .int .i64 x9_6), (17, .int .i64 s.2)]) H (hE.cut (.cons rfl (.cons rfl (.cons rfl (.cons rfl (.cons rfl Subs.nil)))))) hR (fun Y self2 hY_23 s a w hE hR H => ?_)
    rcases s with ⟨x3_18, x17_19⟩
    replace hE : Env (⟨31, []⟩ : Frm) a [(3, .int .u32 x3_18), (7, (x0 : Sl).v), (8, .int .i64 (x0.len : Int)), (9, .int .i64 x9_6), (17, .int .i64 x17_19)] := hE
    replace H : (sector_Sum_l2 self1 x9_6 self2 (x3_18, x17_19)).wp w.heap Q := H
    unfold sector_Sum_l2 at H
    refine w_seq (fun K hK_24 => ?_)
    refine t_region ?_
    refine t_val (v := .bool (decide (x17_19 < 8))) rfl rfl hE rfl (r_bin hE rfl rfl g_int b_lss) (fun a hE => ?_)
    refine t_nil ?_
    refine hK_24 _ _ ?_
    refine w_seq (fun K hK_25 => ?_)
    refine w_cond (decide (x17_19 < 8)) hE rfl (fun hb => ?_) (fun hb => ?_)
    · replace H := M.ite_t hb H
      refine w_skip ?_
      refine hK_25 _ _ ?_
      refine w_seq_join (fun a w => ∃ (x3_26 : Int), Env (⟨31, []⟩ : Frm) a [(7, (x0 : Sl).v), (8, .int .i64 (x0.len : Int)), (9, .int .i64 x9_6), (17, .int .i64 x17_19), (3, .int .u32 x3_26)] ∧ Rest w0 w ∧ (sector_Sum_j1 self2 x17_19 x3_26).wp w.heap Q) ?_ ?_
      · rintro a w ⟨x3_26, hE, hR, H⟩
        unfold sector_Sum_j1 at H
        refine t_region ?_
        refine t_val (v := .int .i64 (IntKind.wrap .i64 (x17_19 + 1))) rfl rfl hE rfl (r_bin hE rfl rfl g_int b_add) (fun a hE => ?_)
        refine t_val (v := .int .i64 (IntKind.wrap .i64 (x17_19 + 1))) rfl rfl hE rfl (r_move hE rfl) (fun a hE => ?_)
        refine t_nil ?_
        exact hY_23 (x3_26, IntKind.wrap .i64 (x17_19 + 1)) _ _ (hE.cut (.cons rfl (.cons rfl (.cons rfl (.cons rfl (.cons rfl Subs.nil)))))) hR H
      · skip
        refine w_block ?_
        refine w_seq (fun K hK_31 => ?_)
        refine t_region ?_
        refine t_val (v := .int .u32 x3_18) rfl rfl hE rfl (r_move hE rfl) (fun a hE => ?_)
        refine t_val (v := .int .u32 (iAnd .u32 x3_18 1)) rfl rfl hE rfl (r_bin hE rfl rfl g_int b_and) (fun a hE => ?_)
        refine t_val (v := .int .u32 (iAnd .u32 x3_18 1)) rfl rfl hE rfl (r_assign hE rfl) (fun a hE => ?_)
        refine t_nil ?_
        refine hK_31 _ _ ?_
        refine w_seq (fun K hK_32 => ?_)
        refine t_region ?_
        refine t_val (v := .int .u32 x3_18) rfl rfl hE rfl (r_move hE rfl) (fun a hE => ?_)
        refine t_val (v := .int .u32 (iShr .u32 x3_18 1)) rfl rfl hE rfl (r_bin hE rfl rfl g_int (b_shr ⟨by decide, rfl⟩)) (fun a hE => ?_)
        refine t_val (v := .int .u32 (iShr .u32 x3_18 1)) rfl rfl hE rfl (r_assign hE rfl) (fun a hE => ?_)
        refine t_nil ?_
        refine hK_32 _ _ ?_
        refine w_seq (fun K hK_33 => ?_)
        refine t_region ?_
        refine t_val (v := .int .u32 (iAnd .u32 x3_18 1)) rfl rfl hE rfl (r_move hE rfl) (fun a hE => ?_)
        refine t_val (v := .bool ((iAnd .u32 x3_18 1) == 1)) rfl rfl hE rfl (r_bin hE rfl rfl g_int b_eql) (fun a hE => ?_)
        refine t_nil ?_
        refine hK_33 _ _ ?_
        refine w_cond ((iAnd .u32 x3_18 1) == 1) hE rfl (fun hb => ?_) (fun hb => ?_)
        · replace H := M.ite_t hb H
          refine t_region ?_
          refine t_val (v := .int .u32 (iShr .u32 x3_18 1)) rfl rfl hE rfl (r_move hE rfl) (fun a hE => ?_)
          refine t_val (v := .int .u32 (iXor .u32 (iShr .u32 x3_18 1) 3988292384)) rfl rfl hE rfl (r_bin hE rfl rfl g_int b_xor) (fun a hE => ?_)
          refine t_val (v := .int .u32 (iXor .u32 (iShr .u32 x3_18 1) 3988292384)) rfl rfl hE rfl (r_assign hE rfl) (fun a hE => ?_)
          refine t_nil ?_
          exact ⟨iXor .u32 (iShr .u32 x3_18 1) 3988292384, hE.cut (.cons rfl (.cons rfl (.cons rfl (.cons rfl (.cons rfl Subs.nil))))), hR, H⟩
        · replace H := M.ite_f hb H
          refine w_skip ?_
          exact ⟨iShr .u32 x3_18 1, hE.cut (.cons rfl (.cons rfl (.cons rfl (.cons rfl (.cons rfl Subs.nil))))), hR, H⟩
    · replace H := M.ite_f hb H
      refine w_exit ?_
      refine Xu.same ?_
      refine hK_12 _ _ ?_
      refine t_region ?_
      refine t_val (v := .int .i64 (IntKind.wrap .i64 (x9_6 + 1))) rfl rfl hE rfl (r_bin hE rfl rfl g_int b_add) (fun a hE => ?_)
      refine t_val (v := .int .i64 (IntKind.wrap .i64 (x9_6 + 1))) rfl rfl hE rfl (r_move hE rfl) (fun a hE => ?_)
      refine t_nil ?_
      exact hY_9 (x3_18, IntKind.wrap .i64 (x9_6 + 1)) _ _ (hE.cut (.cons rfl (.cons rfl (.cons rfl (.cons rfl Subs.nil))))) hR H
  · replace H := M.ite_f hb H
    refine w_exit ?_
    refine Xu.same ?_
    refine hK_3 _ _ ?_
    refine w_seq (fun K hK_34 => ?_)
    refine t_region ?_
    refine t_val (v := .int .u32 x3_5) rfl rfl hE rfl (r_move hE rfl) (fun a hE => ?_)
    refine t_val (v := .int .u32 (iNot .u32 x3_5)) rfl rfl hE rfl (r_un hE rfl u_xor) (fun a hE => ?_)
    refine t_val (v := .int .u32 (iNot .u32 x3_5)) rfl rfl hE rfl (r_assign hE rfl) (fun a hE => ?_)
    refine t_nil ?_
    refine hK_34 _ _ ?_
    refine w_ret ?_
    exact hret _ _ _ (iNot .u32 x3_5) _ hE hR (res_run hE rfl (RV.tmp rfl RV.nil)) rfl H

/-- ramble/sector.Seal -/
theorem tb66_4 : tabAt Go.Proofs.Try.f66 4 [[], [0], [1], [], [3], [4], [5], [0, 1, 2], [7, 2, 0, 1, 2], [0, 1, 2, 3, 4, 5, 6, 7, 8], [9, 6, 8, 0, 1, 2, 3, 4, 5, 6, 7, 8]] [[], [0], [1], [], [3], [4], [5], [], [2, 7], [], [6, 9]] [[], [0], [0, 1], [], [3], [3, 4], [3, 4, 5], [0, 1, 2], [0, 1, 2, 7], [0, 1, 2, 3, 4, 5, 6, 7, 8], [0, 1, 2, 3, 4, 5, 6, 7, 8, 9]] = true := by kernel_rfl
theorem tb66_5 : tabAt Go.Proofs.Try.f66 5 [[], [0], [1], [], [2, 3]] [[], [0], [1], [], [2, 3]] [[], [0], [0, 1], [], [0, 1, 2, 3]] = true := by kernel_rfl
theorem tb66_6 : tabAt Go.Proofs.Try.f66 6 [[], [], [1], [0, 2]] [[], [], [1], [0, 2]] [[], [], [1], [0, 1, 2]] = true := by kernel_rfl
def sector_Seal_l1 (c2_38 : Addr) (c4_39 : Addr) (c6_40 : Int) (self1 : (Int) → M (Array Value × Int)) : (Int) → M (Array Value × Int) := fun s => match s with
  | x5_37 => do
    M.ite (decide (x5_37 < 4)) (do
      let x56_45 ← pShr .u32 c6_40 (IntKind.wrap .i64 (8 * x5_37))
      let x58_46 ← ixA c4_39 128 (IntKind.wrap .i64 (124 + x5_37)) 1
      stV x58_46 (.int .u8 (IntKind.wrap .u8 x56_45))
      self1 (IntKind.wrap .i64 (x5_37 + 1))
      ) (do
      let x59_49 ← ldG 128 c4_39
      M.need (x59_49.size = 128)
      stG c2_38 x59_49
      let r2_51 ← ldG 128 c2_38
      M.pure (r2_51, 0)
      )
def sector_Seal (x0 : Array Value) : M (Array Value × Int) := do
  let x1_2 ← mkB ty_api_Frame x0
  let x2_3 ← mkB ty_api_Sector (Array.replicate 128 (.int .u8 0) : Array Value)
  let x8_6 ← ldI .i64 ((x1_2).add 0)
  let x14_7 ← M.ite (decide (x8_6 < 1)) (do
    M.pure true
    ) (do
    let x12_8 ← ldI .i64 ((x1_2).add 0)
    M.pure (decide (x12_8 > 255))
    )
  let x19_9 ← M.ite x14_7 (do
    M.pure true
    ) (do
    let x17_10 ← ldI .i64 ((x1_2).add 1)
    M.pure (decide (x17_10 < 0))
    )
  let x25_11 ← M.ite x19_9 (do
    M.pure true
    ) (do
    let x22_12 ← ldL ((x1_2).add 2)
    M.pure (decide ((x22_12.len : Int) > 112))
    )
  M.ite x25_11 (do
    M.need ((Array.replicate 128 (.int .u8 0) : Array Value).size = 128)
    stG x2_3 (Array.replicate 128 (.int .u8 0) : Array Value)
    let r2_15 ← ldG 128 x2_3
    M.pure (r2_15, 1)
    ) (do
    let x4_17 ← mkB ty_api_Sector (Array.replicate 128 (.int .u8 0) : Array Value)
    let x28_19 ← ldI .i64 ((x1_2).add 0)
    let x34_20 ← ixA x4_17 128 0 1
    let x31_21 ← ldL ((x1_2).add 2)
    stV x34_20 (.int .u8 (IntKind.wrap .u8 x28_19))
    chk (fun h : Heap => (hcell h ((x1_2).add 0) = some (.int .i64 x28_19)) ∧ (hcell h ((x1_2).add 2) = some ((x31_21 : Sl).v)))
    let x35_23 ← ixA x4_17 128 1 1
    stV x35_23 (.int .u8 (IntKind.wrap .u8 (x31_21.len : Int)))
    let x39_26 ← slA x4_17 128 2 10 1
    let x37_27 ← ldI .i64 ((x1_2).add 1)
    let x40_28 ← sector_big (IntKind.wrap .u64 x37_27) x39_26
    let x41_30 ← slA x4_17 128 10 128 1
    let x43_31 ← ldL ((x1_2).add 2)
    let x44_32 ← cpL 1 x41_30 x43_31
    let x45_35 ← slA x4_17 128 0 124 1
    let x46_36 ← sector_Sum x45_35
    M.loop (sector_Seal_l1 x2_3 x4_17 x46_36) 0
    )
theorem S_sector_Seal (x0 : Array Value) : Sound Go.Proofs.Try.prog 66 #[.agg x0] (fun (r : Array Value × Int) => .tuple #[.agg r.1, .int .i64 r.2]) (sector_Seal x0) := by
  refine sound_of [(0, .agg x0)] Go.Proofs.Try.func66 rfl rfl (Nat.le_of_ble_eq_true rfl) (args_of ⟨rfl, trivial⟩) (fun w0 w Q R a hret hE hR H => ?_)
  unfold sector_Seal at H
  refine w_seq (fun K hK_1 => ?_)
  refine t_region ?_
  obtain ⟨x1_2, qx1_2, H⟩ := H
  refine t_valh (v := .pointer (some x1_2)) rfl rfl hE rfl hR (r_box hE rfl qx1_2) (fun a w hE hR hh => ?_)
  replace H := M.at hh H; clear hh
  obtain ⟨x2_3, qx2_3, H⟩ := H
  refine t_valh (v := .pointer (some x2_3)) rfl rfl hE rfl hR (r_alloc zr47 qx2_3) (fun a w hE hR hh => ?_)
  replace H := M.at hh H; clear hh
  refine t_val (v := .int .i64 0) rfl rfl hE rfl (r_assign hE rfl) (fun a hE => ?_)
  refine t_nil ?_
  refine hK_1 _ _ ?_
  refine w_seq (fun K hK_4 => ?_)
  refine w_seq (fun K hK_5 => ?_)
  refine t_region ?_
  refine t_val (v := .pointer (some ((x1_2).add 0))) rfl rfl hE rfl (r_fieldAddr hE rfl fd86_0) (fun a hE => ?_)
  obtain ⟨x8_6, qx8_6, H⟩ := H
  refine t_val (v := .int .i64 x8_6) rfl rfl hE rfl (r_load hE rfl sc3 qx8_6) (fun a hE => ?_)
  refine t_val (v := .bool (decide (x8_6 < 1))) rfl rfl hE rfl (r_bin hE rfl rfl g_int b_lss) (fun a hE => ?_)
  refine t_val (v := .bool (decide (x8_6 < 1))) rfl rfl hE rfl (r_move hE rfl) (fun a hE => ?_)
  refine t_grp (n := (⟨60, []⟩ : Frm)) (w0 := w0) 4 (fun x14_7 : Bool => [(1, .pointer (some x1_2)), (2, .pointer (some x2_3)), (14, .bool x14_7)]) (M.unbind H) (fun Kr hKr H => ?_) ?_
  · rcases bool_em (decide (x8_6 < 1)) with hb | hb
    · replace H := M.ite_t hb H
      have hE := hE.reb 10 (decide (x8_6 < 1)) true hb rfl
      refine t_off rfl hE rfl rfl rfl (fun a ea => ?_)
      have hE := Env.put_some hE rfl ea; clear ea
      refine t_off rfl hE rfl rfl rfl (fun a ea => ?_)
      have hE := Env.put_some hE rfl ea; clear ea
      refine t_off rfl hE rfl rfl rfl (fun a ea => ?_)
      have hE := Env.put_some hE rfl ea; clear ea
      refine t_val rfl rfl hE rfl (r_pick_t hE rfl rfl) (fun a hE => ?_)
      refine t_nil ?_
      exact hKr _ _ _ (hE.cut (.cons rfl (.cons rfl (.cons rfl Subs.nil)))) hR H
    · replace H := M.ite_f hb H
      have hE := hE.reb 10 (decide (x8_6 < 1)) false hb rfl
      refine t_on rfl hE rfl rfl rfl ?_
      refine t_val (v := .pointer (some ((x1_2).add 0))) rfl rfl hE rfl (r_fieldAddr hE rfl fd86_0) (fun a hE => ?_)
      refine t_on rfl hE rfl rfl rfl ?_
      obtain ⟨x12_8, qx12_8, H⟩ := H
      refine t_val (v := .int .i64 x12_8) rfl rfl hE rfl (r_load hE rfl sc3 qx12_8) (fun a hE => ?_)
      refine t_on rfl hE rfl rfl rfl ?_
      refine t_val (v := .bool (decide (x12_8 > 255))) rfl rfl hE rfl (r_bin hE rfl rfl g_int b_gtr) (fun a hE => ?_)
      refine t_val rfl rfl hE rfl (r_pick_f hE rfl rfl) (fun a hE => ?_)
      refine t_nil ?_
      exact hKr _ _ _ (hE.cut (.cons rfl (.cons rfl (.cons rfl Subs.nil)))) hR H
  · intro x14_7 a w hE hR H
    refine t_val (v := .bool x14_7) rfl rfl hE rfl (r_move hE rfl) (fun a hE => ?_)
    refine t_grp (n := (⟨60, []⟩ : Frm)) (w0 := w0) 4 (fun x19_9 : Bool => [(1, .pointer (some x1_2)), (2, .pointer (some x2_3)), (19, .bool x19_9)]) (M.unbind H) (fun Kr hKr H => ?_) ?_
    · rcases bool_em x14_7 with hb | hb
      · replace H := M.ite_t hb H
        have hE := hE.reb 15 x14_7 true hb rfl
        refine t_off rfl hE rfl rfl rfl (fun a ea => ?_)
        have hE := Env.put_some hE rfl ea; clear ea
        refine t_off rfl hE rfl rfl rfl (fun a ea => ?_)
        have hE := Env.put_some hE rfl ea; clear ea
        refine t_off rfl hE rfl rfl rfl (fun a ea => ?_)
        have hE := Env.put_some hE rfl ea; clear ea
        refine t_val rfl rfl hE rfl (r_pick_t hE rfl rfl) (fun a hE => ?_)
        refine t_nil ?_
        exact hKr _ _ _ (hE.cut (.cons rfl (.cons rfl (.cons rfl Subs.nil)))) hR H
      · replace H := M.ite_f hb H
        have hE := hE.reb 15 x14_7 false hb rfl
        refine t_on rfl hE rfl rfl rfl ?_
        refine t_val (v := .pointer (some ((x1_2).add 1))) rfl rfl hE rfl (r_fieldAddr hE rfl fd86_1) (fun a hE => ?_)
        refine t_on rfl hE rfl rfl rfl ?_
        obtain ⟨x17_10, qx17_10, H⟩ := H
        refine t_val (v := .int .i64 x17_10) rfl rfl hE rfl (r_load hE rfl sc2 qx17_10) (fun a hE => ?_)
        refine t_on rfl hE rfl rfl rfl ?_
        refine t_val (v := .bool (decide (x17_10 < 0))) rfl rfl hE rfl (r_bin hE rfl rfl g_int b_lss) (fun a hE => ?_)
        refine t_val rfl rfl hE rfl (r_pick_f hE rfl rfl) (fun a hE => ?_)
        refine t_nil ?_
        exact hKr _ _ _ (hE.cut (.cons rfl (.cons rfl (.cons rfl Subs.nil)))) hR H
    · intro x19_9 a w hE hR H
      refine t_val (v := .bool x19_9) rfl rfl hE rfl (r_move hE rfl) (fun a hE => ?_)
      refine t_grp (n := (⟨60, []⟩ : Frm)) (w0 := w0) 5 (fun x25_11 : Bool => [(1, .pointer (some x1_2)), (2, .pointer (some x2_3)), (25, .bool x25_11)]) (M.unbind H) (fun Kr hKr H => ?_) ?_
      · rcases bool_em x19_9 with hb | hb
        · replace H := M.ite_t hb H
          have hE := hE.reb 20 x19_9 true hb rfl
          refine t_off rfl hE rfl rfl rfl (fun a ea => ?_)
          have hE := Env.put_some hE rfl ea; clear ea
          refine t_off rfl hE rfl rfl rfl (fun a ea => ?_)
          have hE := Env.put_some hE rfl ea; clear ea
          refine t_off rfl hE rfl rfl rfl (fun a ea => ?_)
          have hE := Env.put_some hE rfl ea; clear ea
          refine t_off rfl hE rfl rfl rfl (fun a ea => ?_)
          have hE := Env.put_some hE rfl ea; clear ea
          refine t_val rfl rfl hE rfl (r_pick_t hE rfl rfl) (fun a hE => ?_)
          refine t_nil ?_
          exact hKr _ _ _ (hE.cut (.cons rfl (.cons rfl (.cons rfl Subs.nil)))) hR H
        · replace H := M.ite_f hb H
          have hE := hE.reb 20 x19_9 false hb rfl
          refine t_on rfl hE rfl rfl rfl ?_
          refine t_val (v := .pointer (some ((x1_2).add 2))) rfl rfl hE rfl (r_fieldAddr hE rfl fd86_2) (fun a hE => ?_)
          refine t_on rfl hE rfl rfl rfl ?_
          obtain ⟨x22_12, qx22_12, H⟩ := H
          refine t_val (v := (x22_12 : Sl).v) rfl rfl hE rfl (r_load hE rfl sc30 qx22_12) (fun a hE => ?_)
          refine t_on rfl hE rfl rfl rfl ?_
          refine t_val (v := .int .i64 (x22_12.len : Int)) rfl rfl hE rfl (r_len hE rfl 5 un30) (fun a hE => ?_)
          refine t_on rfl hE rfl rfl rfl ?_
          refine t_val (v := .bool (decide ((x22_12.len : Int) > 112))) rfl rfl hE rfl (r_bin hE rfl rfl g_int b_gtr) (fun a hE => ?_)
          refine t_val rfl rfl hE rfl (r_pick_f hE rfl rfl) (fun a hE => ?_)
          refine t_nil ?_
          exact hKr _ _ _ (hE.cut (.cons rfl (.cons rfl (.cons rfl Subs.nil)))) hR H
      · intro x25_11 a w hE hR H
        refine t_nil ?_
        refine hK_5 _ _ ?_
        refine w_cond x25_11 hE rfl (fun hb => ?_) (fun hb => ?_)
        · replace H := M.ite_t hb H
          refine w_seq (fun K hK_13 => ?_)
          refine t_region ?_
          refine t_val (v := .agg (Array.replicate 128 (.int .u8 0) : Array Value)) rfl rfl hE rfl (r_build0 bd47) (fun a hE => ?_)
          obtain ⟨qz, H⟩ := H
          obtain ⟨u_14, qu_14, H⟩ := H
          refine t_sth rfl rfl hE hR (r_storeG hE rfl rfl sz47 qz qu_14) (fun a w hE hR hh => ?_)
          replace H := M.at hh H; clear hh
          refine t_val (v := .int .i64 1) rfl rfl hE rfl (r_assign hE rfl) (fun a hE => ?_)
          refine t_nil ?_
          refine hK_13 _ _ ?_
          refine w_ret ?_
          obtain ⟨r2_15, qr2_15, H⟩ := H
          exact hret _ _ _ (r2_15, 1) _ hE hR (res_run hE rfl (RV.cellG rfl ag47 qr2_15 (RV.tmp rfl RV.nil))) rfl H
        · replace H := M.ite_f hb H
          refine w_skip ?_
          refine hK_4 _ _ ?_
          refine w_seq (fun K hK_16 => ?_)
          refine t_region ?_
          obtain ⟨x4_17, qx4_17, H⟩ := H
          refine t_valh (v := .pointer (some x4_17)) rfl rfl hE rfl hR (r_alloc zr47 qx4_17) (fun a w hE hR hh => ?_)
          replace H := M.at hh H; clear hh
          refine t_nil ?_
          refine hK_16 _ _ ?_
          refine w_seq (fun K hK_18 => ?_)
          obtain ⟨x28_19, qx28_19, H⟩ := H
          obtain ⟨x34_20, qx34_20, H⟩ := H
          obtain ⟨x31_21, qx31_21, H⟩ := H
          have hT := tab_of tb66_4 rfl rfl
          refine d_start (fun w : World => (fun h : Heap => (hcell h ((x1_2).add 0) = some (.int .i64 x28_19)) ∧ (hcell h ((x1_2).add 2) = some ((x31_21 : Sl).v))) w.heap) [9, 10] #[false, false, false, false, false, false, false, false, false, false, false] mo hR rfl rfl (fun w' e => by rw [e]; exact ⟨qx28_19, qx31_21⟩) (fun w hh hR hs => ?_)
          replace H := M.at hh H; clear hh
          refine d_pureg (i := 0) (v := .pointer (some ((x1_2).add 0))) #[true, false, false, false, false, false, false, false, false, false, false] rfl rfl hT (by kernel_rfl) hE rfl (wanted_none rfl) (fun w => r_fieldAddr hE rfl fd86_0) (fun a hE => ?_)
          refine d_pureg (i := 3) (v := .pointer (some ((x1_2).add 2))) #[true, false, false, true, false, false, false, false, false, false, false] rfl rfl hT (by kernel_rfl) hE rfl (wanted_none rfl) (fun w => r_fieldAddr hE rfl fd86_2) (fun a hE => ?_)
          refine d_read (i := 1) (v := .int .i64 x28_19) #[true, true, false, true, false, false, false, false, false, false, false] rfl rfl hT (by kernel_rfl) hE rfl (wanted_none rfl) hs (fun w s => r_load hE rfl sc3 s.1) (fun a hE => ?_)
          refine d_pureg (i := 2) (v := .int .u8 (IntKind.wrap .u8 x28_19)) #[true, true, true, true, false, false, false, false, false, false, false] rfl rfl hT (by kernel_rfl) hE rfl (wanted_none rfl) (fun w => r_convI hE rfl un3 un5) (fun a hE => ?_)
          refine d_pureg (i := 7) (v := .pointer (some x34_20)) #[true, true, true, true, false, false, false, true, false, false, false] rfl rfl hT (by kernel_rfl) hE rfl (wanted_none rfl) (fun w => r_indexAddrA hE rfl rfl un47 sz5 qx34_20) (fun a hE => ?_)
          refine d_read (i := 4) (v := (x31_21 : Sl).v) #[true, true, true, true, true, false, false, true, false, false, false] rfl rfl hT (by kernel_rfl) hE rfl (wanted_none rfl) hs (fun w s => r_load hE rfl sc30 s.2) (fun a hE => ?_)
          refine d_pureg (i := 5) (v := .int .i64 (x31_21.len : Int)) #[true, true, true, true, true, true, false, true, false, false, false] rfl rfl hT (by kernel_rfl) hE rfl (wanted_none rfl) (fun w => r_len hE rfl 5 un30) (fun a hE => ?_)
          refine d_pureg (i := 6) (v := .int .u8 (IntKind.wrap .u8 (x31_21.len : Int))) #[true, true, true, true, true, true, true, true, false, false, false] rfl rfl hT (by kernel_rfl) hE rfl (wanted_none rfl) (fun w => r_convI hE rfl un3 un5) (fun a hE => ?_)
          obtain ⟨u_22, qu_22, H⟩ := H
          obtain ⟨_, sA, H⟩ := H
          refine d_sth (i := 8) #[true, true, true, true, true, true, true, true, true, false, false] rfl rfl hT (by kernel_rfl) rfl hE hR (wanted_none rfl) (r_store hE rfl rfl sz5 qu_22)  (fun w' e => by rw [e]; exact sA) (fun a w hE hR hh hs => ?_)
          replace H := M.at hh H; clear hh
          obtain ⟨x35_23, qx35_23, H⟩ := H
          refine d_pureg (i := 9) (v := .pointer (some x35_23)) #[true, true, true, true, true, true, true, true, true, true, false] rfl rfl hT (by kernel_rfl) hE rfl (wanted_none rfl) (fun w => r_indexAddrA hE rfl rfl un47 sz5 qx35_23) (fun a hE => ?_)
          obtain ⟨u_24, qu_24, H⟩ := H
          refine d_stlh (i := 10) #[true, true, true, true, true, true, true, true, true, true, true] rfl rfl hT (by kernel_rfl) rfl hE hR (wanted_none rfl) (r_store hE rfl rfl sz5 qu_24)  (fun a w hE hR hh => ?_)
          replace H := M.at hh H; clear hh
          refine d_done hT (by kernel_rfl) ?_
          refine hK_18 _ _ ?_
          refine w_seq (fun K hK_25 => ?_)
          obtain ⟨x39_26, qx39_26, H⟩ := H
          obtain ⟨x37_27, qx37_27, H⟩ := H
          have hT := tab_of tb66_5 rfl rfl
          refine d_start (fun w : World => (fun h : Heap => (hcell h ((x1_2).add 1) = some (.int .i64 x37_27))) w.heap) [2, 4] #[false, false, false, false, false] mo hR rfl rfl (fun w' e => by rw [e]; exact qx37_27) (fun w hh hR hs => ?_)
          replace H := M.at hh H; clear hh
          refine d_pureg (i := 0) (v := .pointer (some ((x1_2).add 1))) #[true, false, false, false, false] rfl rfl hT (by kernel_rfl) hE rfl (wanted_none rfl) (fun w => r_fieldAddr hE rfl fd86_1) (fun a hE => ?_)
          refine d_pureg (i := 3) (v := (x39_26 : Sl).v) #[true, false, false, true, false] rfl rfl hT (by kernel_rfl) hE rfl (wanted_none rfl) (fun w => r_sliceA_lh hE rfl rfl rfl un47 sz5 qx39_26) (fun a hE => ?_)
          refine d_read (i := 1) (v := .int .i64 x37_27) #[true, true, false, true, false] rfl rfl hT (by kernel_rfl) hE rfl (wanted_none rfl) hs (fun w s => r_load hE rfl sc2 s) (fun a hE => ?_)
          refine d_pureg (i := 2) (v := .int .u64 (IntKind.wrap .u64 x37_27)) #[true, true, true, true, false] rfl rfl hT (by kernel_rfl) hE rfl (wanted_none rfl) (fun w => r_convI hE rfl un2 un106) (fun a hE => ?_)
          refine d_calll (i := 4) #[true, true, true, true, true] rfl rfl rfl hT (by kernel_rfl) rfl hE hR (wanted_none rfl) cl_sector_big rfl (S_sector_big (IntKind.wrap .u64 x37_27) x39_26) (M.unbind H) (fun x40_28 a w ea hR H => ?_)
          have hE := Env.put_some hE rfl ea; clear ea
          refine d_done hT (by kernel_rfl) ?_
          refine hK_25 _ _ ?_
          refine w_seq (fun K hK_29 => ?_)
          obtain ⟨x41_30, qx41_30, H⟩ := H
          obtain ⟨x43_31, qx43_31, H⟩ := H
          have hT := tab_of tb66_6 rfl rfl
          refine d_start (fun w : World => (fun h : Heap => (hcell h ((x1_2).add 2) = some ((x43_31 : Sl).v))) w.heap) [3] #[false, false, false, false] mo hR rfl rfl (fun w' e => by rw [e]; exact qx43_31) (fun w hh hR hs => ?_)
          replace H := M.at hh H; clear hh
          refine d_pureg (i := 0) (v := (x41_30 : Sl).v) #[true, false, false, false] rfl rfl hT (by kernel_rfl) hE rfl (wanted_none rfl) (fun w => r_sliceA_l hE rfl rfl un47 sz5 qx41_30) (fun a hE => ?_)
          refine d_pureg (i := 1) (v := .pointer (some ((x1_2).add 2))) #[true, true, false, false] rfl rfl hT (by kernel_rfl) hE rfl (wanted_none rfl) (fun w => r_fieldAddr hE rfl fd86_2) (fun a hE => ?_)
          refine d_read (i := 2) (v := (x43_31 : Sl).v) #[true, true, true, false] rfl rfl hT (by kernel_rfl) hE rfl (wanted_none rfl) hs (fun w s => r_load hE rfl sc30 s) (fun a hE => ?_)
          refine d_exl (i := 3) (fun x44_32 => .int .i64 x44_32) #[true, true, true, true] rfl rfl hT (by kernel_rfl) rfl hR (wanted_none rfl) (M.unbind H) (fun Q H => cp_run hE rfl rfl un30 sz5 H) (fun x44_32 a w ea hR H => ?_)
          have hE := Env.put_some hE rfl ea; clear ea
          refine d_done hT (by kernel_rfl) ?_
          refine hK_29 _ _ ?_
          refine w_seq (fun K hK_33 => ?_)
          refine w_seq (fun K hK_34 => ?_)
          refine t_region ?_
          obtain ⟨x45_35, qx45_35, H⟩ := H
          refine t_val (v := (x45_35 : Sl).v) rfl rfl hE rfl (r_sliceA_h hE rfl rfl un47 sz5 qx45_35) (fun a hE => ?_)
          refine t_call hE hR cl_sector_Sum rfl (S_sector_Sum x45_35) (M.unbind H) (fun x46_36 a w ea hR H => ?_)
          have hE := Env.put_some hE rfl ea; clear ea
          refine t_val (v := .int .i64 0) rfl rfl hE rfl (r_assign hE rfl) (fun a hE => ?_)
          refine t_val (v := .int .u32 x46_36) rfl rfl hE rfl (r_assign hE rfl) (fun a hE => ?_)
          refine t_nil ?_
          refine hK_34 _ _ ?_
          refine w_block ?_
          refine l_loop (fun (s : Int) => (⟨60, []⟩ : Frm)) (fun (s : Int) => [(2, .pointer (some x2_3)), (4, .pointer (some x4_17)), (5, .int .i64 s), (6, .int .u32 x46_36)]) H (hE.cut (.cons rfl (.cons rfl (.cons rfl (.cons rfl Subs.nil))))) hR (fun Y self1 hY_41 x5_37 a w hE hR H => ?_)
          replace hE : Env (⟨60, []⟩ : Frm) a [(2, .pointer (some x2_3)), (4, .pointer (some x4_17)), (5, .int .i64 x5_37), (6, .int .u32 x46_36)] := hE
          replace H : (sector_Seal_l1 x2_3 x4_17 x46_36 self1 x5_37).wp w.heap Q := H
          unfold sector_Seal_l1 at H
          refine w_seq (fun K hK_42 => ?_)
          refine w_seq (fun K hK_43 => ?_)
          refine t_region ?_
          refine t_val (v := .int .i64 x5_37) rfl rfl hE rfl (r_move hE rfl) (fun a hE => ?_)
          refine t_val (v := .bool (decide (x5_37 < 4))) rfl rfl hE rfl (r_bin hE rfl rfl g_int b_lss) (fun a hE => ?_)
          refine t_nil ?_
          refine hK_43 _ _ ?_
          refine w_cond (decide (x5_37 < 4)) hE rfl (fun hb => ?_) (fun hb => ?_)
          · replace H := M.ite_t hb H
            refine w_skip ?_
            refine hK_42 _ _ ?_
            refine w_seq (fun K hK_44 => ?_)
            refine w_block ?_
            refine t_region ?_
            refine t_val (v := .int .i64 x5_37) rfl rfl hE rfl (r_move hE rfl) (fun a hE => ?_)
            refine t_val (v := .int .i64 (IntKind.wrap .i64 (124 + x5_37))) rfl rfl hE rfl (r_bin hE rfl rfl g_int b_add) (fun a hE => ?_)
            refine t_val (v := .int .u32 x46_36) rfl rfl hE rfl (r_move hE rfl) (fun a hE => ?_)
            refine t_val (v := .int .i64 x5_37) rfl rfl hE rfl (r_move hE rfl) (fun a hE => ?_)
            refine t_val (v := .int .i64 (IntKind.wrap .i64 (8 * x5_37))) rfl rfl hE rfl (r_bin hE rfl rfl g_int b_mul) (fun a hE => ?_)
            obtain ⟨x56_45, qx56_45, H⟩ := H
            refine t_val (v := .int .u32 x56_45) rfl rfl hE rfl (r_bin hE rfl rfl g_int (b_shr qx56_45)) (fun a hE => ?_)
            refine t_val (v := .int .u8 (IntKind.wrap .u8 x56_45)) rfl rfl hE rfl (r_convI hE rfl un49 un5) (fun a hE => ?_)
            obtain ⟨x58_46, qx58_46, H⟩ := H
            refine t_val (v := .pointer (some x58_46)) rfl rfl hE rfl (r_indexAddrA hE rfl rfl un47 sz5 qx58_46) (fun a hE => ?_)
            obtain ⟨u_47, qu_47, H⟩ := H
            refine t_sth rfl rfl hE hR (r_store hE rfl rfl sz5 qu_47) (fun a w hE hR hh => ?_)
            replace H := M.at hh H; clear hh
            refine t_nil ?_
            refine hK_44 _ _ ?_
            refine t_region ?_
            refine t_val (v := .int .i64 x5_37) rfl rfl hE rfl (r_move hE rfl) (fun a hE => ?_)
            refine t_val (v := .int .i64 (IntKind.wrap .i64 (x5_37 + 1))) rfl rfl hE rfl (r_bin hE rfl rfl g_int b_add) (fun a hE => ?_)
            refine t_val (v := .int .i64 (IntKind.wrap .i64 (x5_37 + 1))) rfl rfl hE rfl (r_assign hE rfl) (fun a hE => ?_)
            refine t_nil ?_
            exact hY_41 (IntKind.wrap .i64 (x5_37 + 1)) _ _ (hE.cut (.cons rfl (.cons rfl (.cons rfl (.cons rfl Subs.nil))))) hR H
          · replace H := M.ite_f hb H
            refine w_exit ?_
            refine Xu.same ?_
            refine hK_33 _ _ ?_
            refine w_seq (fun K hK_48 => ?_)
            refine t_region ?_
            obtain ⟨x59_49, qx59_49, H⟩ := H
            refine t_val (v := .agg x59_49) rfl rfl hE rfl (r_loadG hE rfl ag47 qx59_49) (fun a hE => ?_)
            obtain ⟨qz, H⟩ := H
            obtain ⟨u_50, qu_50, H⟩ := H
            refine t_sth rfl rfl hE hR (r_storeG hE rfl rfl sz47 qz qu_50) (fun a w hE hR hh => ?_)
            replace H := M.at hh H; clear hh
            refine t_val (v := .int .i64 0) rfl rfl hE rfl (r_assign hE rfl) (fun a hE => ?_)
            refine t_nil ?_
            refine hK_48 _ _ ?_
            refine w_ret ?_
            obtain ⟨r2_51, qr2_51, H⟩ := H
            exact hret _ _ _ (r2_51, 0) _ hE hR (res_run hE rfl (RV.cellG rfl ag47 qr2_51 (RV.tmp rfl RV.nil))) rfl H

/-- ramble/sector.Put -/
def sector_Put (x0 : Option Addr) (x1 : Int) (x2 : Array Value) : M (Int) := do
  let x5_2 ← mkB ty_api_Frame x2
  let x10_4 ← ldG 3 x5_2
  let x11_5 ← sector_Seal x10_4
  let x7_6 ← mkB ty_api_Sector (Array.replicate 128 (.int .u8 0) : Array Value)
  M.need (x11_5.1.size = 128)
  stG x7_6 x11_5.1
  M.ite (x11_5.2 != 0) (do
    M.pure x11_5.2
    ) (do
    let x19_12 ← ldG 128 x7_6
    let x20_13 ← disk_Disk_Write x0 x1 x19_12
    M.pure x20_13
    )
theorem S_sector_Put (x0 : Option Addr) (x1 : Int) (x2 : Array Value) : Sound Go.Proofs.Try.prog 46 #[.pointer x0, .int .i64 x1, .agg x2] (fun (r : Int) => .int .i64 r) (sector_Put x0 x1 x2) := by
  refine sound_of [(0, .pointer x0), (1, .int .i64 x1), (2, .agg x2)] Go.Proofs.Try.func46 rfl rfl (Nat.le_of_ble_eq_true rfl) (args_of ⟨rfl, rfl, rfl, trivial⟩) (fun w0 w Q R a hret hE hR H => ?_)
  unfold sector_Put at H
  refine w_seq (fun K hK_1 => ?_)
  refine t_region ?_
  obtain ⟨x5_2, qx5_2, H⟩ := H
  refine t_valh (v := .pointer (some x5_2)) rfl rfl hE rfl hR (r_box hE rfl qx5_2) (fun a w hE hR hh => ?_)
  replace H := M.at hh H; clear hh
  refine t_val (v := .int .i64 0) rfl rfl hE rfl (r_assign hE rfl) (fun a hE => ?_)
  refine t_nil ?_
  refine hK_1 _ _ ?_
  refine w_seq (fun K hK_3 => ?_)
  refine t_region ?_
  obtain ⟨x10_4, qx10_4, H⟩ := H
  refine t_val (v := .agg x10_4) rfl rfl hE rfl (r_loadG hE rfl ag86 qx10_4) (fun a hE => ?_)
  refine t_call hE hR cl_sector_Seal rfl (S_sector_Seal x10_4) (M.unbind H) (fun x11_5 a w ea hR H => ?_)
  have hE := Env.put_some hE rfl ea; clear ea
  refine t_val (v := .tuple #[.agg x11_5.1, .int .i64 x11_5.2]) rfl rfl hE rfl (r_move hE rfl) (fun a hE => ?_)
  refine t_val (v := .agg x11_5.1) rfl rfl hE rfl (r_extract hE rfl rfl) (fun a hE => ?_)
  refine t_val (v := .int .i64 x11_5.2) rfl rfl hE rfl (r_extract hE rfl rfl) (fun a hE => ?_)
  obtain ⟨x7_6, qx7_6, H⟩ := H
  refine t_valh (v := .pointer (some x7_6)) rfl rfl hE rfl hR (r_alloc zr47 qx7_6) (fun a w hE hR hh => ?_)
  replace H := M.at hh H; clear hh
  obtain ⟨qz, H⟩ := H
  obtain ⟨u_7, qu_7, H⟩ := H
  refine t_sth rfl rfl hE hR (r_storeG hE rfl rfl sz47 qz qu_7) (fun a w hE hR hh => ?_)
  replace H := M.at hh H; clear hh
  refine t_val (v := .int .i64 x11_5.2) rfl rfl hE rfl (r_assign hE rfl) (fun a hE => ?_)
  refine t_nil ?_
  refine hK_3 _ _ ?_
  refine w_seq (fun K hK_8 => ?_)
  refine w_seq (fun K hK_9 => ?_)
  refine t_region ?_
  refine t_val (v := .int .i64 x11_5.2) rfl rfl hE rfl (r_move hE rfl) (fun a hE => ?_)
  refine t_val (v := .bool (x11_5.2 != 0)) rfl rfl hE rfl (r_bin hE rfl rfl g_int b_neq) (fun a hE => ?_)
  refine t_nil ?_
  refine hK_9 _ _ ?_
  refine w_cond (x11_5.2 != 0) hE rfl (fun hb => ?_) (fun hb => ?_)
  · replace H := M.ite_t hb H
    refine w_seq (fun K hK_10 => ?_)
    refine t_region ?_
    refine t_val (v := .int .i64 x11_5.2) rfl rfl hE rfl (r_move hE rfl) (fun a hE => ?_)
    refine t_val (v := .int .i64 x11_5.2) rfl rfl hE rfl (r_assign hE rfl) (fun a hE => ?_)
    refine t_nil ?_
    refine hK_10 _ _ ?_
    refine w_ret ?_
    exact hret _ _ _ x11_5.2 _ hE hR (res_run hE rfl (RV.tmp rfl RV.nil)) rfl H
  · replace H := M.ite_f hb H
    refine w_skip ?_
    refine hK_8 _ _ ?_
    refine w_seq (fun K hK_11 => ?_)
    refine t_region ?_
    refine t_val (v := .pointer x0) rfl rfl hE rfl (r_move hE rfl) (fun a hE => ?_)
    refine t_val (v := .int .i64 x1) rfl rfl hE rfl (r_move hE rfl) (fun a hE => ?_)
    obtain ⟨x19_12, qx19_12, H⟩ := H
    refine t_val (v := .agg x19_12) rfl rfl hE rfl (r_loadG hE rfl ag47 qx19_12) (fun a hE => ?_)
    refine t_call hE hR cl_disk_Disk_Write rfl (S_disk_Disk_Write x0 x1 x19_12) (M.unbind H) (fun x20_13 a w ea hR H => ?_)
    have hE := Env.put_some hE rfl ea; clear ea
    refine t_val (v := .int .i64 x20_13) rfl rfl hE rfl (r_assign hE rfl) (fun a hE => ?_)
    refine t_nil ?_
    refine hK_11 _ _ ?_
    refine w_ret ?_
    exact hret _ _ _ x20_13 _ hE hR (res_run hE rfl (RV.tmp rfl RV.nil)) rfl H

/-- ramble/num.Put -/
def num_Put_l1 (self1 : (Int × Sl) → M (Sl)) : (Int × Sl) → M (Sl) := fun s => match s with
  | (x1_5, x5_6) => do
    M.ite (decide (x1_5 > 127)) (do
      let x16_11 ← bdL ty_uint8 1 #[.int .u8 (iOr .u8 (IntKind.wrap .u8 x1_5) 128)]
      let x17_12 ← apL ty_uint8 1 1 (#[.int .u8 0] : Array Value) x5_6 x16_11
      self1 (iShr .u64 x1_5 7, x17_12)
      ) (do
      let x21_14 ← bdL ty_uint8 1 #[.int .u8 (IntKind.wrap .u8 x1_5)]
      let x22_15 ← apL ty_uint8 1 1 (#[.int .u8 0] : Array Value) x5_6 x21_14
      M.pure x22_15
      )
def num_Put (x0 : Sl) (x1 : Int) : M (Sl) := do
  let x7_3 ← slices_Clone_slbyte_byte x0
  M.loop num_Put_l1 (x1, x7_3)
theorem S_num_Put (x0 : Sl) (x1 : Int) : Sound Go.Proofs.Try.prog 63 #[(x0 : Sl).v, .int .u64 x1] (fun (r : Sl) => (r : Sl).v) (num_Put x0 x1) := by
  refine sound_of [(0, (x0 : Sl).v), (1, .int .u64 x1)] Go.Proofs.Try.func63 rfl rfl (Nat.le_of_ble_eq_true rfl) (args_of ⟨rfl, rfl, trivial⟩) (fun w0 w Q R a hret hE hR H => ?_)
  unfold num_Put at H
  refine w_seq (fun K hK_1 => ?_)
  refine t_region ?_
  refine t_val (v := (Sl.nil : Sl).v) rfl rfl hE rfl (r_assign hE rfl) (fun a hE => ?_)
  refine t_nil ?_
  refine hK_1 _ _ ?_
  refine w_seq (fun K hK_2 => ?_)
  refine t_region ?_
  refine t_val (v := (x0 : Sl).v) rfl rfl hE rfl (r_move hE rfl) (fun a hE => ?_)
  refine t_call hE hR cl_slices_Clone_slbyte_byte rfl (S_slices_Clone_slbyte_byte x0) (M.unbind H) (fun x7_3 a w ea hR H => ?_)
  have hE := Env.put_some hE rfl ea; clear ea
  refine t_val (v := (x7_3 : Sl).v) rfl rfl hE rfl (r_assign hE rfl) (fun a hE => ?_)
  refine t_nil ?_
  refine hK_2 _ _ ?_
  refine w_seq (fun K hK_4 => ?_)
  refine w_block ?_
  refine l_loop (fun (s : Int × Sl) => (⟨23, []⟩ : Frm)) (fun (s : Int × Sl) => [(1, .int .u64 s.1), (5, (s.2 : Sl).v)]) H (hE.cut (.cons rfl (.cons rfl Subs.nil))) hR (fun Y self1 hY_7 s a w hE hR H => ?_)
  rcases s with ⟨x1_5, x5_6⟩
  replace hE : Env (⟨23, []⟩ : Frm) a [(1, .int .u64 x1_5), (5, (x5_6 : Sl).v)] := hE
  replace H : (num_Put_l1 self1 (x1_5, x5_6)).wp w.heap Q := H
  unfold num_Put_l1 at H
  refine w_seq (fun K hK_8 => ?_)
  refine w_seq (fun K hK_9 => ?_)
  refine t_region ?_
  refine t_val (v := .int .u64 x1_5) rfl rfl hE rfl (r_move hE rfl) (fun a hE => ?_)
  refine t_val (v := .bool (decide (x1_5 > 127))) rfl rfl hE rfl (r_bin hE rfl rfl g_int b_gtr) (fun a hE => ?_)
  refine t_nil ?_
  refine hK_9 _ _ ?_
  refine w_cond (decide (x1_5 > 127)) hE rfl (fun hb => ?_) (fun hb => ?_)
  · replace H := M.ite_t hb H
    refine w_skip ?_
    refine hK_8 _ _ ?_
    refine w_seq (fun K hK_10 => ?_)
    refine w_block ?_
    refine t_region ?_
    refine t_val (v := (x5_6 : Sl).v) rfl rfl hE rfl (r_move hE rfl) (fun a hE => ?_)
    refine t_val (v := .int .u64 x1_5) rfl rfl hE rfl (r_move hE rfl) (fun a hE => ?_)
    refine t_val (v := .int .u8 (IntKind.wrap .u8 x1_5)) rfl rfl hE rfl (r_convI hE rfl un106 un5) (fun a hE => ?_)
    refine t_val (v := .int .u8 (iOr .u8 (IntKind.wrap .u8 x1_5) 128)) rfl rfl hE rfl (r_bin hE rfl rfl g_int b_or) (fun a hE => ?_)
    obtain ⟨x16_11, qx16_11, H⟩ := H
    refine t_valh (v := (x16_11 : Sl).v) rfl rfl hE rfl hR (r_buildL (cells := #[.int .u8 (iOr .u8 (IntKind.wrap .u8 x1_5) 128)]) hE rfl un30 sz5 zr5 rfl rfl qx16_11) (fun a w hE hR hh => ?_)
    replace H := M.at hh H; clear hh
    refine t_ex (fun x17_12 => (x17_12 : Sl).v) rfl rfl hR (M.unbind H) (fun Q H => ap_run hE rfl rfl ap30 H) (fun x17_12 a w ea hR H => ?_)
    have hE := Env.put_some hE rfl ea; clear ea
    refine t_val (v := (x17_12 : Sl).v) rfl rfl hE rfl (r_assign hE rfl) (fun a hE => ?_)
    refine t_nil ?_
    refine hK_10 _ _ ?_
    refine t_region ?_
    refine t_val (v := .int .u64 x1_5) rfl rfl hE rfl (r_move hE rfl) (fun a hE => ?_)
    refine t_val (v := .int .u64 (iShr .u64 x1_5 7)) rfl rfl hE rfl (r_bin hE rfl rfl g_int (b_shr ⟨by decide, rfl⟩)) (fun a hE => ?_)
    refine t_val (v := .int .u64 (iShr .u64 x1_5 7)) rfl rfl hE rfl (r_assign hE rfl) (fun a hE => ?_)
    refine t_nil ?_
    exact hY_7 (iShr .u64 x1_5 7, x17_12) _ _ (hE.cut (.cons rfl (.cons rfl Subs.nil))) hR H
  · replace H := M.ite_f hb H
    refine w_exit ?_
    refine Xu.same ?_
    refine hK_4 _ _ ?_
    refine w_seq (fun K hK_13 => ?_)
    refine t_region ?_
    refine t_val (v := (x5_6 : Sl).v) rfl rfl hE rfl (r_move hE rfl) (fun a hE => ?_)
    refine t_val (v := .int .u64 x1_5) rfl rfl hE rfl (r_move hE rfl) (fun a hE => ?_)
    refine t_val (v := .int .u8 (IntKind.wrap .u8 x1_5)) rfl rfl hE rfl (r_convI hE rfl un106 un5) (fun a hE => ?_)
    obtain ⟨x21_14, qx21_14, H⟩ := H
    refine t_valh (v := (x21_14 : Sl).v) rfl rfl hE rfl hR (r_buildL (cells := #[.int .u8 (IntKind.wrap .u8 x1_5)]) hE rfl un30 sz5 zr5 rfl rfl qx21_14) (fun a w hE hR hh => ?_)
    replace H := M.at hh H; clear hh
    refine t_ex (fun x22_15 => (x22_15 : Sl).v) rfl rfl hR (M.unbind H) (fun Q H => ap_run hE rfl rfl ap30 H) (fun x22_15 a w ea hR H => ?_)
    have hE := Env.put_some hE rfl ea; clear ea
    refine t_val (v := (x22_15 : Sl).v) rfl rfl hE rfl (r_assign hE rfl) (fun a hE => ?_)
    refine t_nil ?_
    refine hK_13 _ _ ?_
    refine w_ret ?_
    exact hret _ _ _ x22_15 _ hE hR (res_run hE rfl (RV.tmp rfl RV.nil)) rfl H

/-- (*ramble/wal.Log).head -/
theorem tb39_1 : tabAt Go.Proofs.Try.f39 1 [[], [0], [1], [2], [3], [4], [], [6], [7], [8], [5, 9, 5], [10, 10, 0, 1, 2, 3, 4, 5, 6, 7, 8, 9, 10]] [[], [0], [1], [2], [3], [4], [], [6], [7], [8], [5, 9], [10]] [[], [0], [0, 1], [0, 1, 2], [0, 1, 2, 3], [0, 1, 2, 3, 4], [], [6], [6, 7], [6, 7, 8], [0, 1, 2, 3, 4, 5, 6, 7, 8, 9], [0, 1, 2, 3, 4, 5, 6, 7, 8, 9, 10]] = true := by kernel_rfl
def wal_Log_head (x0 : Option Addr) (x1 : Int) : M (Int) := do
  let x7_3 ← nilP x0
  let x13_4 ← nilP x0
  let x9_5 ← ldI .i64 ((x7_3).add 1)
  let x15_6 ← ldL ((x13_4).add 2)
  let x11_7 ← num_Put Sl.nil (IntKind.wrap .u64 x9_5)
  chk (fun h : Heap => (hcell h ((x7_3).add 1) = some (.int .i64 x9_5)) ∧ (hcell h ((x13_4).add 2) = some ((x15_6 : Sl).v)))
  let x16_8 ← apL ty_uint8 1 1 (#[.int .u8 0] : Array Value) x11_7 x15_6
  let x18_10 ← nilP x0
  let x20_11 ← ldP ((x18_10).add 0)
  let x26_12 ← sector_Put x20_11 (iAnd .i64 x1 1) (#[.int .i64 1, .int .i64 x1, (x16_8 : Sl).v] : Array Value)
  M.pure x26_12
theorem S_wal_Log_head (x0 : Option Addr) (x1 : Int) : Sound Go.Proofs.Try.prog 39 #[.pointer x0, .int .i64 x1] (fun (r : Int) => .int .i64 r) (wal_Log_head x0 x1) := by
  refine sound_of [(0, .pointer x0), (1, .int .i64 x1)] Go.Proofs.Try.func39 rfl rfl (Nat.le_of_ble_eq_true rfl) (args_of ⟨rfl, rfl, trivial⟩) (fun w0 w Q R a hret hE hR H => ?_)
  unfold wal_Log_head at H
  refine w_seq (fun K hK_1 => ?_)
  refine t_region ?_
  refine t_val (v := .int .i64 0) rfl rfl hE rfl (r_assign hE rfl) (fun a hE => ?_)
  refine t_nil ?_
  refine hK_1 _ _ ?_
  refine w_seq (fun K hK_2 => ?_)
  obtain ⟨x7_3, qx7_3, H⟩ := H
  obtain ⟨x13_4, qx13_4, H⟩ := H
  obtain ⟨x9_5, qx9_5, H⟩ := H
  obtain ⟨x15_6, qx15_6, H⟩ := H
  have hT := tab_of tb39_1 rfl rfl
  refine d_start (fun w : World => (fun h : Heap => (hcell h ((x7_3).add 1) = some (.int .i64 x9_5)) ∧ (hcell h ((x13_4).add 2) = some ((x15_6 : Sl).v))) w.heap) [10, 11] #[false, false, false, false, false, false, false, false, false, false, false, false] mo hR rfl rfl (fun w' e => by rw [e]; exact ⟨qx9_5, qx15_6⟩) (fun w hh hR hs => ?_)
  replace H := M.at hh H; clear hh
  refine d_pureg (i := 0) (v := .pointer x0) #[true, false, false, false, false, false, false, false, false, false, false, false] rfl rfl hT (by kernel_rfl) hE rfl (wanted_none rfl) (fun w => r_move hE rfl) (fun a hE => ?_)
  refine d_pureg (i := 1) (v := .pointer (some x7_3)) #[true, true, false, false, false, false, false, false, false, false, false, false] rfl rfl hT (by kernel_rfl) hE rfl (wanted_none rfl) (fun w => r_nilCheck hE (hx_eq rfl (congrArg Value.pointer qx7_3))) (fun a hE => ?_)
  refine d_pureg (i := 2) (v := .pointer (some ((x7_3).add 1))) #[true, true, true, false, false, false, false, false, false, false, false, false] rfl rfl hT (by kernel_rfl) hE rfl (wanted_none rfl) (fun w => r_fieldAddr hE rfl fd40_1) (fun a hE => ?_)
  refine d_pureg (i := 6) (v := .pointer x0) #[true, true, true, false, false, false, true, false, false, false, false, false] rfl rfl hT (by kernel_rfl) hE rfl (wanted_none rfl) (fun w => r_move hE rfl) (fun a hE => ?_)
  refine d_pureg (i := 7) (v := .pointer (some x13_4)) #[true, true, true, false, false, false, true, true, false, false, false, false] rfl rfl hT (by kernel_rfl) hE rfl (wanted_none rfl) (fun w => r_nilCheck hE (hx_eq rfl (congrArg Value.pointer qx13_4))) (fun a hE => ?_)
  refine d_pureg (i := 8) (v := .pointer (some ((x13_4).add 2))) #[true, true, true, false, false, false, true, true, true, false, false, false] rfl rfl hT (by kernel_rfl) hE rfl (wanted_none rfl) (fun w => r_fieldAddr hE rfl fd40_2) (fun a hE => ?_)
  refine d_read (i := 3) (v := .int .i64 x9_5) #[true, true, true, true, false, false, true, true, true, false, false, false] rfl rfl hT (by kernel_rfl) hE rfl (wanted_none rfl) hs (fun w s => r_load hE rfl sc3 s.1) (fun a hE => ?_)
  refine d_pureg (i := 4) (v := .int .u64 (IntKind.wrap .u64 x9_5)) #[true, true, true, true, true, false, true, true, true, false, false, false] rfl rfl hT (by kernel_rfl) hE rfl (wanted_none rfl) (fun w => r_convI hE rfl un3 un106) (fun a hE => ?_)
  refine d_read (i := 9) (v := (x15_6 : Sl).v) #[true, true, true, true, true, false, true, true, true, true, false, false] rfl rfl hT (by kernel_rfl) hE rfl (wanted_none rfl) hs (fun w s => r_load hE rfl sc30 s.2) (fun a hE => ?_)
  refine d_call (i := 5) #[true, true, true, true, true, true, true, true, true, true, false, false] rfl rfl rfl hT (by kernel_rfl) rfl hE hR (wanted_none rfl) cl_num_Put rfl (S_num_Put Sl.nil (IntKind.wrap .u64 x9_5)) (M.unbind H) (fun r h H w' e => by obtain ⟨_, sA, H⟩ := H; rw [e]; exact sA) (fun x11_7 a w ea hR H hs => ?_)
  obtain ⟨_, sA, H⟩ := H; clear sA
  have hE := Env.put_some hE rfl ea; clear ea
  refine d_exl (i := 10) (fun x16_8 => (x16_8 : Sl).v) #[true, true, true, true, true, true, true, true, true, true, true, false] rfl rfl hT (by kernel_rfl) rfl hR (wanted_none rfl) (M.unbind H) (fun Q H => ap_run hE rfl rfl ap30 H) (fun x16_8 a w ea hR H => ?_)
  have hE := Env.put_some hE rfl ea; clear ea
  refine d_pureg (i := 11) (v := (x16_8 : Sl).v) #[true, true, true, true, true, true, true, true, true, true, true, true] rfl rfl hT (by kernel_rfl) hE rfl (wanted_none rfl) (fun w => r_assign hE rfl) (fun a hE => ?_)
  refine d_done hT (by kernel_rfl) ?_
  refine hK_2 _ _ ?_
  refine w_seq (fun K hK_9 => ?_)
  refine t_region ?_
  refine t_val (v := .pointer x0) rfl rfl hE rfl (r_move hE rfl) (fun a hE => ?_)
  obtain ⟨x18_10, qx18_10, H⟩ := H
  refine t_val (v := .pointer (some x18_10)) rfl rfl hE rfl (r_nilCheck hE (hx_eq rfl (congrArg Value.pointer qx18_10))) (fun a hE => ?_)
  refine t_val (v := .pointer (some ((x18_10).add 0))) rfl rfl hE rfl (r_fieldAddr hE rfl fd40_0) (fun a hE => ?_)
  obtain ⟨x20_11, qx20_11, H⟩ := H
  refine t_val (v := .pointer x20_11) rfl rfl hE rfl (r_load hE rfl sc23 qx20_11) (fun a hE => ?_)
  refine t_val (v := .int .i64 x1) rfl rfl hE rfl (r_move hE rfl) (fun a hE => ?_)
  refine t_val (v := .int .i64 (iAnd .i64 x1 1)) rfl rfl hE rfl (r_bin hE rfl rfl g_int b_and) (fun a hE => ?_)
  refine t_val (v := .int .i64 x1) rfl rfl hE rfl (r_move hE rfl) (fun a hE => ?_)
  refine t_val (v := (x16_8 : Sl).v) rfl rfl hE rfl (r_move hE rfl) (fun a hE => ?_)
  refine t_val (v := .agg (#[.int .i64 1, .int .i64 x1, (x16_8 : Sl).v] : Array Value)) rfl rfl hE rfl (r_build hE rfl zr86 pl86 (by rfl)) (fun a hE => ?_)
  refine t_call hE hR cl_sector_Put rfl (S_sector_Put x20_11 (iAnd .i64 x1 1) (#[.int .i64 1, .int .i64 x1, (x16_8 : Sl).v] : Array Value)) (M.unbind H) (fun x26_12 a w ea hR H => ?_)
  have hE := Env.put_some hE rfl ea; clear ea
  refine t_val (v := .int .i64 x26_12) rfl rfl hE rfl (r_assign hE rfl) (fun a hE => ?_)
  refine t_nil ?_
  refine hK_9 _ _ ?_
  refine w_ret ?_
  exact hret _ _ _ x26_12 _ hE hR (res_run hE rfl (RV.tmp rfl RV.nil)) rfl H

end Gx
