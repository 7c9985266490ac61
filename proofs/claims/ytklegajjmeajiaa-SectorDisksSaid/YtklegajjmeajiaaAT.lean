/- Printed by program: types and closed facts of the turned code. No condition. -/
import Derived.Test.YtklegajjmeajiaaGxI
import Derived.Test.YtklegajjmeajiaaProg
import Derived.KernelRfl
namespace Gx
open Go
abbrev ty_api_Frame : Nat := 24
abbrev ty_api_Sector : Nat := 26
abbrev ty_bool : Nat := 4
abbrev ty_disk_Disk : Nat := 78
abbrev ty_ramblelaw05_Op : Nat := 59
abbrev ty_rambleref04_Cached : Nat := 87
abbrev ty_rambleref04_Disk : Nat := 84
abbrev ty_uint8 : Nat := 5
theorem mo : Go.Proofs.Try.prog.follows .mixedOrders = true := by kernel_rfl
theorem un2 : Go.Proofs.Try.prog.underlying 2 = some (.int .i64) := by kernel_rfl
theorem un22 : Go.Proofs.Try.prog.underlying 22 = some (.slice 5) := by kernel_rfl
theorem un26 : Go.Proofs.Try.prog.underlying 26 = some (.array 128 5) := by kernel_rfl
theorem un3 : Go.Proofs.Try.prog.underlying 3 = some (.int .i64) := by kernel_rfl
theorem un34 : Go.Proofs.Try.prog.underlying 34 = some (.int .u32) := by kernel_rfl
theorem un45 : Go.Proofs.Try.prog.underlying 45 = some (.int .u16) := by kernel_rfl
theorem un46 : Go.Proofs.Try.prog.underlying 46 = some (.pointer 78) := by kernel_rfl
theorem un5 : Go.Proofs.Try.prog.underlying 5 = some (.int .u8) := by kernel_rfl
theorem un54 : Go.Proofs.Try.prog.underlying 54 = some (.slice 59) := by kernel_rfl
theorem un67 : Go.Proofs.Try.prog.underlying 67 = some (.int .u64) := by kernel_rfl
theorem un74 : Go.Proofs.Try.prog.underlying 74 = some (.slice 26) := by kernel_rfl
theorem un75 : Go.Proofs.Try.prog.underlying 75 = some (.slice 4) := by kernel_rfl
theorem un76 : Go.Proofs.Try.prog.underlying 76 = some (.map 3 26) := by kernel_rfl
theorem un82 : Go.Proofs.Try.prog.underlying 82 = some (.slice 87) := by kernel_rfl
theorem un9 : Go.Proofs.Try.prog.underlying 9 = some (.string) := by kernel_rfl
theorem zr24 : ((Go.Proofs.Try.prog.info? 24).bind (·.zero)) = some (.agg (#[.int .i64 0, .int .i64 0, .slice none 0 0] : Array Value)) := by kernel_rfl
theorem zr26 : ((Go.Proofs.Try.prog.info? 26).bind (·.zero)) = some (.agg (Array.replicate 128 (.int .u8 0) : Array Value)) := by kernel_rfl
theorem zr4 : ((Go.Proofs.Try.prog.info? 4).bind (·.zero)) = some (.bool false) := by kernel_rfl
theorem zr5 : ((Go.Proofs.Try.prog.info? 5).bind (·.zero)) = some (.int .u8 0) := by kernel_rfl
theorem zr59 : ((Go.Proofs.Try.prog.info? 59).bind (·.zero)) = some (.agg (#[.int .i64 0, .int .i64 0, .int .i64 0, .int .i64 0, .slice none 0 0, .int .i64 0, .int .u32 0] : Array Value)) := by kernel_rfl
theorem zr78 : ((Go.Proofs.Try.prog.info? 78).bind (·.zero)) = some (.agg (#[.slice none 0 0, .slice none 0 0, .map none, .bool false, .int .i64 0, .int .i64 0] : Array Value)) := by kernel_rfl
theorem zr84 : ((Go.Proofs.Try.prog.info? 84).bind (·.zero)) = some (.agg (#[.slice none 0 0, .slice none 0 0, .slice none 0 0, .bool false, .int .i64 0, .int .i64 0] : Array Value)) := by kernel_rfl
theorem zr87 : ((Go.Proofs.Try.prog.info? 87).bind (·.zero)) = some (.agg (#[.int .i64 0] ++ Array.replicate 128 (.int .u8 0) : Array Value)) := by kernel_rfl
theorem ag24 : agB Go.Proofs.Try.prog 24 3 = true := by kernel_rfl
theorem ag26 : agB Go.Proofs.Try.prog 26 128 = true := by kernel_rfl
theorem ag59 : agB Go.Proofs.Try.prog 59 7 = true := by kernel_rfl
theorem ag87 : agB Go.Proofs.Try.prog 87 129 = true := by kernel_rfl
theorem ap22 : apB Go.Proofs.Try.prog 22 5 1 1 (#[.int .u8 0] : Array Value) := ⟨un22, ap_info (by kernel_rfl)⟩
theorem ap74 : apB Go.Proofs.Try.prog 74 26 128 128 (Array.replicate 128 (.int .u8 0) : Array Value) := ⟨un74, ap_info (by kernel_rfl)⟩
theorem ap75 : apB Go.Proofs.Try.prog 75 4 1 1 (#[.bool false] : Array Value) := ⟨un75, ap_info (by kernel_rfl)⟩
theorem ap82 : apB Go.Proofs.Try.prog 82 87 129 136 (#[.int .i64 0] ++ Array.replicate 128 (.int .u8 0) : Array Value) := ⟨un82, ap_info (by kernel_rfl)⟩
theorem bd24 : ∀ w, (Instr.build 24 #[]).run Go.Proofs.Try.prog w = .ok (.agg (#[.int .i64 0, .int .i64 0, .slice none 0 0] : Array Value)) w := fun w => by kernel_rfl
theorem bd26 : ∀ w, (Instr.build 26 #[]).run Go.Proofs.Try.prog w = .ok (.agg (Array.replicate 128 (.int .u8 0) : Array Value)) w := fun w => by kernel_rfl
theorem cl10 : Callee? Go.Proofs.Try.prog 10 := callee_of Go.Proofs.Try.func10 (by kernel_rfl) rfl
theorem cl11 : Callee? Go.Proofs.Try.prog 11 := callee_of Go.Proofs.Try.func11 (by kernel_rfl) rfl
theorem cl12 : Callee? Go.Proofs.Try.prog 12 := callee_of Go.Proofs.Try.func12 (by kernel_rfl) rfl
theorem cl13 : Callee? Go.Proofs.Try.prog 13 := callee_of Go.Proofs.Try.func13 (by kernel_rfl) rfl
theorem cl14 : Callee? Go.Proofs.Try.prog 14 := callee_of Go.Proofs.Try.func14 (by kernel_rfl) rfl
theorem cl15 : Callee? Go.Proofs.Try.prog 15 := callee_of Go.Proofs.Try.func15 (by kernel_rfl) rfl
theorem cl19 : Callee? Go.Proofs.Try.prog 19 := callee_of Go.Proofs.Try.func19 (by kernel_rfl) rfl
theorem cl22 : Callee? Go.Proofs.Try.prog 22 := callee_of Go.Proofs.Try.func22 (by kernel_rfl) rfl
theorem cl23 : Callee? Go.Proofs.Try.prog 23 := callee_of Go.Proofs.Try.func23 (by kernel_rfl) rfl
theorem cl24 : Callee? Go.Proofs.Try.prog 24 := callee_of Go.Proofs.Try.func24 (by kernel_rfl) rfl
theorem cl25 : Callee? Go.Proofs.Try.prog 25 := callee_of Go.Proofs.Try.func25 (by kernel_rfl) rfl
theorem cl26 : Callee? Go.Proofs.Try.prog 26 := callee_of Go.Proofs.Try.func26 (by kernel_rfl) rfl
theorem cl27 : Callee? Go.Proofs.Try.prog 27 := callee_of Go.Proofs.Try.func27 (by kernel_rfl) rfl
theorem cl28 : Callee? Go.Proofs.Try.prog 28 := callee_of Go.Proofs.Try.func28 (by kernel_rfl) rfl
theorem cl29 : Callee? Go.Proofs.Try.prog 29 := callee_of Go.Proofs.Try.func29 (by kernel_rfl) rfl
theorem cl30 : Callee? Go.Proofs.Try.prog 30 := callee_of Go.Proofs.Try.func30 (by kernel_rfl) rfl
theorem cl31 : Callee? Go.Proofs.Try.prog 31 := callee_of Go.Proofs.Try.func31 (by kernel_rfl) rfl
theorem cl32 : Callee? Go.Proofs.Try.prog 32 := callee_of Go.Proofs.Try.func32 (by kernel_rfl) rfl
theorem cl33 : Callee? Go.Proofs.Try.prog 33 := callee_of Go.Proofs.Try.func33 (by kernel_rfl) rfl
theorem cl34 : Callee? Go.Proofs.Try.prog 34 := callee_of Go.Proofs.Try.func34 (by kernel_rfl) rfl
theorem cl35 : Callee? Go.Proofs.Try.prog 35 := callee_of Go.Proofs.Try.func35 (by kernel_rfl) rfl
theorem cl39 : Callee? Go.Proofs.Try.prog 39 := callee_of Go.Proofs.Try.func39 (by kernel_rfl) rfl
theorem cl40 : Callee? Go.Proofs.Try.prog 40 := callee_of Go.Proofs.Try.func40 (by kernel_rfl) rfl
theorem cl41 : Callee? Go.Proofs.Try.prog 41 := callee_of Go.Proofs.Try.func41 (by kernel_rfl) rfl
theorem cl42 : Callee? Go.Proofs.Try.prog 42 := callee_of Go.Proofs.Try.func42 (by kernel_rfl) rfl
theorem cl43 : Callee? Go.Proofs.Try.prog 43 := callee_of Go.Proofs.Try.func43 (by kernel_rfl) rfl
theorem cl44 : Callee? Go.Proofs.Try.prog 44 := callee_of Go.Proofs.Try.func44 (by kernel_rfl) rfl
theorem cl45 : Callee? Go.Proofs.Try.prog 45 := callee_of Go.Proofs.Try.func45 (by kernel_rfl) rfl
theorem cl46 : Callee? Go.Proofs.Try.prog 46 := callee_of Go.Proofs.Try.func46 (by kernel_rfl) rfl
theorem cl47 : Callee? Go.Proofs.Try.prog 47 := callee_of Go.Proofs.Try.func47 (by kernel_rfl) rfl
theorem cl51 : Callee? Go.Proofs.Try.prog 51 := callee_of Go.Proofs.Try.func51 (by kernel_rfl) rfl
theorem cl8 : Callee? Go.Proofs.Try.prog 8 := callee_of Go.Proofs.Try.func8 (by kernel_rfl) rfl
theorem cl9 : Callee? Go.Proofs.Try.prog 9 := callee_of Go.Proofs.Try.func9 (by kernel_rfl) rfl
theorem eg26 : Go.Proofs.Try.prog.eqGuardType Go.Proofs.Try.prog.depth 26 = false := by kernel_rfl
theorem fd24_0 : fdOff Go.Proofs.Try.prog 24 0 = some 0 := by kernel_rfl
theorem fd24_1 : fdOff Go.Proofs.Try.prog 24 1 = some 1 := by kernel_rfl
theorem fd24_2 : fdOff Go.Proofs.Try.prog 24 2 = some 2 := by kernel_rfl
theorem fd59_0 : fdOff Go.Proofs.Try.prog 59 0 = some 0 := by kernel_rfl
theorem fd59_1 : fdOff Go.Proofs.Try.prog 59 1 = some 1 := by kernel_rfl
theorem fd59_2 : fdOff Go.Proofs.Try.prog 59 2 = some 2 := by kernel_rfl
theorem fd59_3 : fdOff Go.Proofs.Try.prog 59 3 = some 5 := by kernel_rfl
theorem fd59_4 : fdOff Go.Proofs.Try.prog 59 4 = some 6 := by kernel_rfl
theorem fd78_0 : fdOff Go.Proofs.Try.prog 78 0 = some 0 := by kernel_rfl
theorem fd78_1 : fdOff Go.Proofs.Try.prog 78 1 = some 1 := by kernel_rfl
theorem fd78_2 : fdOff Go.Proofs.Try.prog 78 2 = some 2 := by kernel_rfl
theorem fd78_3 : fdOff Go.Proofs.Try.prog 78 3 = some 3 := by kernel_rfl
theorem fd78_4 : fdOff Go.Proofs.Try.prog 78 4 = some 4 := by kernel_rfl
theorem fd78_5 : fdOff Go.Proofs.Try.prog 78 5 = some 5 := by kernel_rfl
theorem fd84_0 : fdOff Go.Proofs.Try.prog 84 0 = some 0 := by kernel_rfl
theorem fd84_1 : fdOff Go.Proofs.Try.prog 84 1 = some 1 := by kernel_rfl
theorem fd84_2 : fdOff Go.Proofs.Try.prog 84 2 = some 2 := by kernel_rfl
theorem fd84_3 : fdOff Go.Proofs.Try.prog 84 3 = some 3 := by kernel_rfl
theorem fd84_4 : fdOff Go.Proofs.Try.prog 84 4 = some 4 := by kernel_rfl
theorem fd84_5 : fdOff Go.Proofs.Try.prog 84 5 = some 5 := by kernel_rfl
theorem fd87_0 : fdOff Go.Proofs.Try.prog 87 0 = some 0 := by kernel_rfl
theorem fd87_1 : fdOff Go.Proofs.Try.prog 87 1 = some 1 := by kernel_rfl
theorem pl24 : placesOf Go.Proofs.Try.prog 24 = some [(0, 1), (1, 1), (2, 1)] := by kernel_rfl
theorem pl78 : placesOf Go.Proofs.Try.prog 78 = some [(0, 1), (1, 1), (2, 1), (3, 1), (4, 1), (5, 1)] := by kernel_rfl
theorem pl84 : placesOf Go.Proofs.Try.prog 84 = some [(0, 1), (1, 1), (2, 1), (3, 1), (4, 1), (5, 1)] := by kernel_rfl
theorem pl87 : placesOf Go.Proofs.Try.prog 87 = some [(0, 1), (1, 128)] := by kernel_rfl
theorem sc2 : scB Go.Proofs.Try.prog 2 = true := by kernel_rfl
theorem sc22 : scB Go.Proofs.Try.prog 22 = true := by kernel_rfl
theorem sc3 : scB Go.Proofs.Try.prog 3 = true := by kernel_rfl
theorem sc34 : scB Go.Proofs.Try.prog 34 = true := by kernel_rfl
theorem sc4 : scB Go.Proofs.Try.prog 4 = true := by kernel_rfl
theorem sc5 : scB Go.Proofs.Try.prog 5 = true := by kernel_rfl
theorem sc74 : scB Go.Proofs.Try.prog 74 = true := by kernel_rfl
theorem sc75 : scB Go.Proofs.Try.prog 75 = true := by kernel_rfl
theorem sc76 : scB Go.Proofs.Try.prog 76 = true := by kernel_rfl
theorem sc82 : scB Go.Proofs.Try.prog 82 = true := by kernel_rfl
theorem sz2 : szB Go.Proofs.Try.prog 2 1 = true := by kernel_rfl
theorem sz22 : szB Go.Proofs.Try.prog 22 1 = true := by kernel_rfl
theorem sz24 : szB Go.Proofs.Try.prog 24 3 = true := by kernel_rfl
theorem sz26 : szB Go.Proofs.Try.prog 26 128 = true := by kernel_rfl
theorem sz3 : szB Go.Proofs.Try.prog 3 1 = true := by kernel_rfl
theorem sz4 : szB Go.Proofs.Try.prog 4 1 = true := by kernel_rfl
theorem sz5 : szB Go.Proofs.Try.prog 5 1 = true := by kernel_rfl
theorem sz59 : szB Go.Proofs.Try.prog 59 7 = true := by kernel_rfl
theorem sz74 : szB Go.Proofs.Try.prog 74 1 = true := by kernel_rfl
theorem sz75 : szB Go.Proofs.Try.prog 75 1 = true := by kernel_rfl
theorem sz82 : szB Go.Proofs.Try.prog 82 1 = true := by kernel_rfl
theorem sz87 : szB Go.Proofs.Try.prog 87 129 = true := by kernel_rfl
end Gx
