/- Printed by program: Go functions as Lean programs, each tied to its code. No condition. -/
import Derived.Test.YthelieedlghccaaGreatDoorP0
import Derived.Test.YthelieedlghccaaGreatDoorP1
import Derived.Test.YthelieedlghccaaGreatDoorProg
import Derived.KernelRfl
import Derived.Lib.AtoiErrMem
import Derived.Shelf.Small.Bits
import Derived.Shelf.Small.Strs
import Derived.Shelf.Strconv.Itoa3
import Derived.Shelf.Strconv.ParseInt10All
import Derived.Shelf.Strings.Builder1
import Derived.Shelf.Strings.Search1
import Derived.Shelf.Strings.Search2
set_option linter.unusedVariables false
set_option linter.unusedSimpArgs false
namespace Gx
open Go
abbrev fn_internal_strconv_FormatInt : Nat:=198
abbrev fn_num_Parse : Nat:=114
abbrev fn_num_Parse_1 : Nat:=160
abbrev fn_rambleref02_Compare : Nat:=38
abbrev fn_slices_Chunk_slapi_Value_api_Value_1 : Nat:=136
abbrev fn_slices_symMergeCmpFunc_slapi_Value : Nat:=179
abbrev fn_value_Clone : Nat:=39
abbrev fn_value_Compare : Nat:=13
abbrev fn_value_Map_1 : Nat:=80
abbrev fn_value_may_1 : Nat:=129
abbrev fn_value_read : Nat:=75
abbrev fn_value_reader_list : Nat:=176
abbrev fn_value_reader_value : Nat:=131
abbrev fn_value_text : Nat:=76
abbrev ty_24_uint8 : Nat:=221
abbrev ty_65_uint8 : Nat:=246
abbrev ty_api_Value : Nat:=24
abbrev ty_bool : Nat:=4
abbrev ty_int : Nat:=3
abbrev ty_internal_strconv_Error : Nat:=225
abbrev ty_p_strconv_NumError : Nat:=228
abbrev ty_sl_api_Value : Nat:=22
abbrev ty_sl_sl_api_Value : Nat:=89
abbrev ty_strconv_NumError : Nat:=249
abbrev ty_string : Nat:=9
abbrev ty_strings_Builder : Nat:=109
abbrev ty_uint8 : Nat:=5
abbrev ty_value_reader : Nat:=146
abbrev ty_value_wrong : Nat:=142
theorem mo : Go.Proofs.Tryz.prog.follows .mixedOrders = true:=by kernel_rfl
theorem un118 : Go.Proofs.Tryz.prog.underlying 118 = some (.slice 9):=by kernel_rfl
theorem un136 : Go.Proofs.Tryz.prog.underlying 136 = some (.slice 3):=by kernel_rfl
theorem un154 : Go.Proofs.Tryz.prog.underlying 154 = some (.int .u64):=by kernel_rfl
theorem un165 : Go.Proofs.Tryz.prog.underlying 165 = some (.pointer 5):=by kernel_rfl
theorem un184 : Go.Proofs.Tryz.prog.underlying 184 = some (.int .u64):=by kernel_rfl
theorem un2 : Go.Proofs.Tryz.prog.underlying 2 = some (.int .i64):=by kernel_rfl
theorem un22 : Go.Proofs.Tryz.prog.underlying 22 = some (.slice 24):=by kernel_rfl
theorem un221 : Go.Proofs.Tryz.prog.underlying 221 = some (.array 24 5):=by kernel_rfl
theorem un245 : Go.Proofs.Tryz.prog.underlying 245 = some (.array 20 154):=by kernel_rfl
theorem un246 : Go.Proofs.Tryz.prog.underlying 246 = some (.array 65 5):=by kernel_rfl
theorem un259 : Go.Proofs.Tryz.prog.underlying 259 = some (.array 64 5):=by kernel_rfl
theorem un3 : Go.Proofs.Tryz.prog.underlying 3 = some (.int .i64):=by kernel_rfl
theorem un35 : Go.Proofs.Tryz.prog.underlying 35 = some (.slice 5):=by kernel_rfl
theorem un5 : Go.Proofs.Tryz.prog.underlying 5 = some (.int .u8):=by kernel_rfl
theorem un89 : Go.Proofs.Tryz.prog.underlying 89 = some (.slice 22):=by kernel_rfl
theorem un9 : Go.Proofs.Tryz.prog.underlying 9 = some (.string):=by kernel_rfl
theorem zr109 : ((Go.Proofs.Tryz.prog.info? 109).bind (·.zero)) = some (.agg (#[.pointer none,.slice none 0 0] : Array Value)):=by kernel_rfl
theorem zr142 : ((Go.Proofs.Tryz.prog.info? 142).bind (·.zero)) = some (.agg (#[.int .i64 0] : Array Value)):=by kernel_rfl
theorem zr22 : ((Go.Proofs.Tryz.prog.info? 22).bind (·.zero)) = some (.slice none 0 0):=by kernel_rfl
theorem zr221 : ((Go.Proofs.Tryz.prog.info? 221).bind (·.zero)) = some (.agg (Array.replicate 24 (.int .u8 0) : Array Value)):=by kernel_rfl
theorem zr24 : ((Go.Proofs.Tryz.prog.info? 24).bind (·.zero)) = some (.agg (#[.int .i64 0,.int .i64 0,.string ByteArray.empty,.slice none 0 0] : Array Value)):=by kernel_rfl
theorem zr246 : ((Go.Proofs.Tryz.prog.info? 246).bind (·.zero)) = some (.agg (Array.replicate 65 (.int .u8 0) : Array Value)):=by kernel_rfl
theorem zr249 : ((Go.Proofs.Tryz.prog.info? 249).bind (·.zero)) = some (.agg (#[.string ByteArray.empty,.string ByteArray.empty,.nilIface] : Array Value)):=by kernel_rfl
theorem zr3 : ((Go.Proofs.Tryz.prog.info? 3).bind (·.zero)) = some (.int .i64 0):=by kernel_rfl
theorem zr5 : ((Go.Proofs.Tryz.prog.info? 5).bind (·.zero)) = some (.int .u8 0):=by kernel_rfl
theorem zr9 : ((Go.Proofs.Tryz.prog.info? 9).bind (·.zero)) = some (.string ByteArray.empty):=by kernel_rfl
theorem ag24 : agB Go.Proofs.Tryz.prog 24 4 = true:=by kernel_rfl
theorem ap118 : apB Go.Proofs.Tryz.prog 118 9 1 16 (#[.string ByteArray.empty] : Array Value):=⟨un118,ap_info (by kernel_rfl)⟩
theorem ap22 : apB Go.Proofs.Tryz.prog 22 24 4 56 (#[.int .i64 0,.int .i64 0,.string ByteArray.empty,.slice none 0 0] : Array Value):=⟨un22,ap_info (by kernel_rfl)⟩
theorem ap35 : apB Go.Proofs.Tryz.prog 35 5 1 1 (#[.int .u8 0] : Array Value):=⟨un35,ap_info (by kernel_rfl)⟩
theorem ap89 : apB Go.Proofs.Tryz.prog 89 22 1 24 (#[.slice none 0 0] : Array Value):=⟨un89,ap_info (by kernel_rfl)⟩
theorem bd24 : ∀ w,(Instr.build 24 #[]).run Go.Proofs.Tryz.prog w = .ok (.agg (#[.int .i64 0,.int .i64 0,.string ByteArray.empty,.slice none 0 0] : Array Value)) w:=fun w=>by kernel_rfl
theorem cl_cmp_Compare_int : Callee? Go.Proofs.Tryz.prog 70:=callee_of Go.Proofs.Tryz.func70 (by kernel_rfl) rfl
theorem cl_cmp_Compare_int64 : Callee? Go.Proofs.Tryz.prog 71:=callee_of Go.Proofs.Tryz.func71 (by kernel_rfl) rfl
theorem cl_cmp_Or_int : Callee? Go.Proofs.Tryz.prog 69:=callee_of Go.Proofs.Tryz.func69 (by kernel_rfl) rfl
theorem cl_cmp_isNaN_int : Callee? Go.Proofs.Tryz.prog 125:=callee_of Go.Proofs.Tryz.func125 (by kernel_rfl) rfl
theorem cl_cmp_isNaN_int64 : Callee? Go.Proofs.Tryz.prog 126:=callee_of Go.Proofs.Tryz.func126 (by kernel_rfl) rfl
theorem cl_internal_bytealg_CompareString : Callee? Go.Proofs.Tryz.prog 127:=callee_of Go.Proofs.Tryz.func127 (by kernel_rfl) rfl
theorem cl_internal_strconv_FormatInt : Callee? Go.Proofs.Tryz.prog 198:=callee_of Go.Proofs.Tryz.func198 (by kernel_rfl) rfl
theorem cl_internal_strconv_ParseInt : Callee? Go.Proofs.Tryz.prog 201:=callee_of Go.Proofs.Tryz.func201 (by kernel_rfl) rfl
theorem cl_internal_strconv_bool2_int : Callee? Go.Proofs.Tryz.prog 248:=callee_of Go.Proofs.Tryz.func248 (by kernel_rfl) rfl
theorem cl_internal_strconv_formatBase10 : Callee? Go.Proofs.Tryz.prog 229:=callee_of Go.Proofs.Tryz.func229 (by kernel_rfl) rfl
theorem cl_internal_strconv_formatBits : Callee? Go.Proofs.Tryz.prog 230:=callee_of Go.Proofs.Tryz.func230 (by kernel_rfl) rfl
theorem cl_internal_strconv_isPowerOfTwo : Callee? Go.Proofs.Tryz.prog 249:=callee_of Go.Proofs.Tryz.func249 (by kernel_rfl) rfl
theorem cl_internal_strconv_log10Pow2 : Callee? Go.Proofs.Tryz.prog 247:=callee_of Go.Proofs.Tryz.func247 (by kernel_rfl) rfl
theorem cl_internal_strconv_numDigits : Callee? Go.Proofs.Tryz.prog 228:=callee_of Go.Proofs.Tryz.func228 (by kernel_rfl) rfl
theorem cl_internal_strconv_small : Callee? Go.Proofs.Tryz.prog 227:=callee_of Go.Proofs.Tryz.func227 (by kernel_rfl) rfl
theorem cl_internal_stringslite_Clone : Callee? Go.Proofs.Tryz.prog 253:=callee_of Go.Proofs.Tryz.func253 (by kernel_rfl) rfl
theorem cl_internal_stringslite_IndexByte : Callee? Go.Proofs.Tryz.prog 194:=callee_of Go.Proofs.Tryz.func194 (by kernel_rfl) rfl
theorem cl_math_bits_Len64 : Callee? Go.Proofs.Tryz.prog 217:=callee_of Go.Proofs.Tryz.func217 (by kernel_rfl) rfl
theorem cl_math_bits_TrailingZeros : Callee? Go.Proofs.Tryz.prog 250:=callee_of Go.Proofs.Tryz.func250 (by kernel_rfl) rfl
theorem cl_math_bits_TrailingZeros64 : Callee? Go.Proofs.Tryz.prog 259:=callee_of Go.Proofs.Tryz.func259 (by kernel_rfl) rfl
theorem cl_num_Parse : Callee? Go.Proofs.Tryz.prog 114:=callee_of Go.Proofs.Tryz.func114 (by kernel_rfl) rfl
theorem cl_num_Parse_1 : Callee? Go.Proofs.Tryz.prog 160:=callee_of Go.Proofs.Tryz.func160 (by kernel_rfl) rfl
theorem cl_num_Text : Callee? Go.Proofs.Tryz.prog 109:=callee_of Go.Proofs.Tryz.func109 (by kernel_rfl) rfl
theorem cl_num_told : Callee? Go.Proofs.Tryz.prog 141:=callee_of Go.Proofs.Tryz.func141 (by kernel_rfl) rfl
theorem cl_ramblelaw02_begun : Callee? Go.Proofs.Tryz.prog 14:=callee_of Go.Proofs.Tryz.func14 (by kernel_rfl) rfl
theorem cl_rambleref02_Compare : Callee? Go.Proofs.Tryz.prog 38:=callee_of Go.Proofs.Tryz.func38 (by kernel_rfl) rfl
theorem cl_rambleref02_Same : Callee? Go.Proofs.Tryz.prog 19:=callee_of Go.Proofs.Tryz.func19 (by kernel_rfl) rfl
theorem cl_rambleref02_num : Callee? Go.Proofs.Tryz.prog 85:=callee_of Go.Proofs.Tryz.func85 (by kernel_rfl) rfl
theorem cl_rambleref02_text : Callee? Go.Proofs.Tryz.prog 86:=callee_of Go.Proofs.Tryz.func86 (by kernel_rfl) rfl
theorem cl_slices_AppendSeq_slslapi_Value_slapi_Value : Callee? Go.Proofs.Tryz.prog 135:=callee_of Go.Proofs.Tryz.func135 (by kernel_rfl) rfl
theorem cl_slices_Chunk_slapi_Value_api_Value : Callee? Go.Proofs.Tryz.prog 78:=callee_of Go.Proofs.Tryz.func78 (by kernel_rfl) rfl
theorem cl_slices_Chunk_slapi_Value_api_Value_1 : Callee? Go.Proofs.Tryz.prog 136:=callee_of Go.Proofs.Tryz.func136 (by kernel_rfl) rfl
theorem cl_slices_Clone_slapi_Value_api_Value : Callee? Go.Proofs.Tryz.prog 21:=callee_of Go.Proofs.Tryz.func21 (by kernel_rfl) rfl
theorem cl_slices_Collect_slapi_Value : Callee? Go.Proofs.Tryz.prog 77:=callee_of Go.Proofs.Tryz.func77 (by kernel_rfl) rfl
theorem cl_slices_CompareFunc_slapi_Value_slapi_Value_api_Value_api_Value : Callee? Go.Proofs.Tryz.prog 73:=callee_of Go.Proofs.Tryz.func73 (by kernel_rfl) rfl
theorem cl_slices_Concat_slapi_Value_api_Value : Callee? Go.Proofs.Tryz.prog 82:=callee_of Go.Proofs.Tryz.func82 (by kernel_rfl) rfl
theorem cl_slices_ContainsFunc_slapi_Value_api_Value : Callee? Go.Proofs.Tryz.prog 128:=callee_of Go.Proofs.Tryz.func128 (by kernel_rfl) rfl
theorem cl_slices_ContainsFunc_slbyte_byte : Callee? Go.Proofs.Tryz.prog 159:=callee_of Go.Proofs.Tryz.func159 (by kernel_rfl) rfl
theorem cl_slices_Grow_slapi_Value_api_Value : Callee? Go.Proofs.Tryz.prog 138:=callee_of Go.Proofs.Tryz.func138 (by kernel_rfl) rfl
theorem cl_slices_IndexFunc_slapi_Value_api_Value : Callee? Go.Proofs.Tryz.prog 169:=callee_of Go.Proofs.Tryz.func169 (by kernel_rfl) rfl
theorem cl_slices_IndexFunc_slbyte_byte : Callee? Go.Proofs.Tryz.prog 200:=callee_of Go.Proofs.Tryz.func200 (by kernel_rfl) rfl
theorem cl_slices_SortStableFunc_slslapi_Value_slapi_Value : Callee? Go.Proofs.Tryz.prog 79:=callee_of Go.Proofs.Tryz.func79 (by kernel_rfl) rfl
theorem cl_slices_insertionSortCmpFunc_slapi_Value : Callee? Go.Proofs.Tryz.prog 178:=callee_of Go.Proofs.Tryz.func178 (by kernel_rfl) rfl
theorem cl_slices_rotateCmpFunc_slapi_Value : Callee? Go.Proofs.Tryz.prog 220:=callee_of Go.Proofs.Tryz.func220 (by kernel_rfl) rfl
theorem cl_slices_stableCmpFunc_slapi_Value : Callee? Go.Proofs.Tryz.prog 137:=callee_of Go.Proofs.Tryz.func137 (by kernel_rfl) rfl
theorem cl_slices_swapRangeCmpFunc_slapi_Value : Callee? Go.Proofs.Tryz.prog 244:=callee_of Go.Proofs.Tryz.func244 (by kernel_rfl) rfl
theorem cl_slices_symMergeCmpFunc_slapi_Value : Callee? Go.Proofs.Tryz.prog 179:=callee_of Go.Proofs.Tryz.func179 (by kernel_rfl) rfl
theorem cl_strconv_FormatInt : Callee? Go.Proofs.Tryz.prog 156:=callee_of Go.Proofs.Tryz.func156 (by kernel_rfl) rfl
theorem cl_strconv_ParseInt : Callee? Go.Proofs.Tryz.prog 161:=callee_of Go.Proofs.Tryz.func161 (by kernel_rfl) rfl
theorem cl_strconv_baseError : Callee? Go.Proofs.Tryz.prog 234:=callee_of Go.Proofs.Tryz.func234 (by kernel_rfl) rfl
theorem cl_strconv_bitSizeError : Callee? Go.Proofs.Tryz.prog 235:=callee_of Go.Proofs.Tryz.func235 (by kernel_rfl) rfl
theorem cl_strconv_rangeError : Callee? Go.Proofs.Tryz.prog 233:=callee_of Go.Proofs.Tryz.func233 (by kernel_rfl) rfl
theorem cl_strconv_syntaxError : Callee? Go.Proofs.Tryz.prog 232:=callee_of Go.Proofs.Tryz.func232 (by kernel_rfl) rfl
theorem cl_strconv_toError : Callee? Go.Proofs.Tryz.prog 202:=callee_of Go.Proofs.Tryz.func202 (by kernel_rfl) rfl
theorem cl_strings_Builder_Grow : Callee? Go.Proofs.Tryz.prog 177:=callee_of Go.Proofs.Tryz.func177 (by kernel_rfl) rfl
theorem cl_strings_Builder_String : Callee? Go.Proofs.Tryz.prog 97:=callee_of Go.Proofs.Tryz.func97 (by kernel_rfl) rfl
theorem cl_strings_Builder_WriteByte : Callee? Go.Proofs.Tryz.prog 96:=callee_of Go.Proofs.Tryz.func96 (by kernel_rfl) rfl
theorem cl_strings_Builder_WriteString : Callee? Go.Proofs.Tryz.prog 95:=callee_of Go.Proofs.Tryz.func95 (by kernel_rfl) rfl
theorem cl_strings_Builder_copyCheck : Callee? Go.Proofs.Tryz.prog 150:=callee_of Go.Proofs.Tryz.func150 (by kernel_rfl) rfl
theorem cl_strings_Builder_grow : Callee? Go.Proofs.Tryz.prog 219:=callee_of Go.Proofs.Tryz.func219 (by kernel_rfl) rfl
theorem cl_strings_Compare : Callee? Go.Proofs.Tryz.prog 72:=callee_of Go.Proofs.Tryz.func72 (by kernel_rfl) rfl
theorem cl_strings_IndexByte : Callee? Go.Proofs.Tryz.prog 242:=callee_of Go.Proofs.Tryz.func242 (by kernel_rfl) rfl
theorem cl_strings_Join : Callee? Go.Proofs.Tryz.prog 134:=callee_of Go.Proofs.Tryz.func134 (by kernel_rfl) rfl
theorem cl_value_Bool : Callee? Go.Proofs.Tryz.prog 34:=callee_of Go.Proofs.Tryz.func34 (by kernel_rfl) rfl
theorem cl_value_Check : Callee? Go.Proofs.Tryz.prog 16:=callee_of Go.Proofs.Tryz.func16 (by kernel_rfl) rfl
theorem cl_value_Clone : Callee? Go.Proofs.Tryz.prog 39:=callee_of Go.Proofs.Tryz.func39 (by kernel_rfl) rfl
theorem cl_value_Compare : Callee? Go.Proofs.Tryz.prog 13:=callee_of Go.Proofs.Tryz.func13 (by kernel_rfl) rfl
theorem cl_value_Int : Callee? Go.Proofs.Tryz.prog 26:=callee_of Go.Proofs.Tryz.func26 (by kernel_rfl) rfl
theorem cl_value_Map : Callee? Go.Proofs.Tryz.prog 20:=callee_of Go.Proofs.Tryz.func20 (by kernel_rfl) rfl
theorem cl_value_Map_1 : Callee? Go.Proofs.Tryz.prog 80:=callee_of Go.Proofs.Tryz.func80 (by kernel_rfl) rfl
theorem cl_value_Parse : Callee? Go.Proofs.Tryz.prog 17:=callee_of Go.Proofs.Tryz.func17 (by kernel_rfl) rfl
theorem cl_value_Same : Callee? Go.Proofs.Tryz.prog 15:=callee_of Go.Proofs.Tryz.func15 (by kernel_rfl) rfl
theorem cl_value_Str : Callee? Go.Proofs.Tryz.prog 28:=callee_of Go.Proofs.Tryz.func28 (by kernel_rfl) rfl
theorem cl_value_Text : Callee? Go.Proofs.Tryz.prog 18:=callee_of Go.Proofs.Tryz.func18 (by kernel_rfl) rfl
theorem cl_value_digit : Callee? Go.Proofs.Tryz.prog 171:=callee_of Go.Proofs.Tryz.func171 (by kernel_rfl) rfl
theorem cl_value_made : Callee? Go.Proofs.Tryz.prog 81:=callee_of Go.Proofs.Tryz.func81 (by kernel_rfl) rfl
theorem cl_value_may : Callee? Go.Proofs.Tryz.prog 74:=callee_of Go.Proofs.Tryz.func74 (by kernel_rfl) rfl
theorem cl_value_may_1 : Callee? Go.Proofs.Tryz.prog 129:=callee_of Go.Proofs.Tryz.func129 (by kernel_rfl) rfl
theorem cl_value_quote : Callee? Go.Proofs.Tryz.prog 133:=callee_of Go.Proofs.Tryz.func133 (by kernel_rfl) rfl
theorem cl_value_read : Callee? Go.Proofs.Tryz.prog 75:=callee_of Go.Proofs.Tryz.func75 (by kernel_rfl) rfl
theorem cl_value_reader_element : Callee? Go.Proofs.Tryz.prog 175:=callee_of Go.Proofs.Tryz.func175 (by kernel_rfl) rfl
theorem cl_value_reader_escaped : Callee? Go.Proofs.Tryz.prog 218:=callee_of Go.Proofs.Tryz.func218 (by kernel_rfl) rfl
theorem cl_value_reader_fail : Callee? Go.Proofs.Tryz.prog 132:=callee_of Go.Proofs.Tryz.func132 (by kernel_rfl) rfl
theorem cl_value_reader_here : Callee? Go.Proofs.Tryz.prog 170:=callee_of Go.Proofs.Tryz.func170 (by kernel_rfl) rfl
theorem cl_value_reader_list : Callee? Go.Proofs.Tryz.prog 176:=callee_of Go.Proofs.Tryz.func176 (by kernel_rfl) rfl
theorem cl_value_reader_must : Callee? Go.Proofs.Tryz.prog 174:=callee_of Go.Proofs.Tryz.func174 (by kernel_rfl) rfl
theorem cl_value_reader_number : Callee? Go.Proofs.Tryz.prog 172:=callee_of Go.Proofs.Tryz.func172 (by kernel_rfl) rfl
theorem cl_value_reader_str : Callee? Go.Proofs.Tryz.prog 173:=callee_of Go.Proofs.Tryz.func173 (by kernel_rfl) rfl
theorem cl_value_reader_value : Callee? Go.Proofs.Tryz.prog 131:=callee_of Go.Proofs.Tryz.func131 (by kernel_rfl) rfl
theorem cl_value_text : Callee? Go.Proofs.Tryz.prog 76:=callee_of Go.Proofs.Tryz.func76 (by kernel_rfl) rfl
theorem cmt225 : cmB Go.Proofs.Tryz.prog 225 = true:=by kernel_rfl
theorem co5 : Go.Proofs.Tryz.prog.cellsOf 5 = 1:=by kernel_rfl
theorem fd109_1 : fdOff Go.Proofs.Tryz.prog 109 1 = some 1:=by kernel_rfl
theorem fd146_0 : fdOff Go.Proofs.Tryz.prog 146 0 = some 0:=by kernel_rfl
theorem fd146_1 : fdOff Go.Proofs.Tryz.prog 146 1 = some 1:=by kernel_rfl
theorem fd24_0 : fdOff Go.Proofs.Tryz.prog 24 0 = some 0:=by kernel_rfl
theorem fd24_1 : fdOff Go.Proofs.Tryz.prog 24 1 = some 1:=by kernel_rfl
theorem fd24_2 : fdOff Go.Proofs.Tryz.prog 24 2 = some 2:=by kernel_rfl
theorem fd24_3 : fdOff Go.Proofs.Tryz.prog 24 3 = some 3:=by kernel_rfl
theorem ifc111 : ifB Go.Proofs.Tryz.prog 111 = true:=by kernel_rfl
theorem ni142 : niB Go.Proofs.Tryz.prog 142 = true:=by kernel_rfl
theorem ni225 : niB Go.Proofs.Tryz.prog 225 = true:=by kernel_rfl
theorem ni228 : niB Go.Proofs.Tryz.prog 228 = true:=by kernel_rfl
theorem pl142 : placesOf Go.Proofs.Tryz.prog 142 = some [(0,1)]:=by kernel_rfl
theorem pl24 : placesOf Go.Proofs.Tryz.prog 24 = some [(0,1),(1,1),(2,1),(3,1)]:=by kernel_rfl
theorem pl249 : placesOf Go.Proofs.Tryz.prog 249 = some [(0,1),(1,1),(2,1)]:=by kernel_rfl
theorem sc111 : scB Go.Proofs.Tryz.prog 111 = true:=by kernel_rfl
theorem sc154 : scB Go.Proofs.Tryz.prog 154 = true:=by kernel_rfl
theorem sc2 : scB Go.Proofs.Tryz.prog 2 = true:=by kernel_rfl
theorem sc22 : scB Go.Proofs.Tryz.prog 22 = true:=by kernel_rfl
theorem sc3 : scB Go.Proofs.Tryz.prog 3 = true:=by kernel_rfl
theorem sc35 : scB Go.Proofs.Tryz.prog 35 = true:=by kernel_rfl
theorem sc5 : scB Go.Proofs.Tryz.prog 5 = true:=by kernel_rfl
theorem sc89 : scB Go.Proofs.Tryz.prog 89 = true:=by kernel_rfl
theorem sc9 : scB Go.Proofs.Tryz.prog 9 = true:=by kernel_rfl
theorem sz154 : szB Go.Proofs.Tryz.prog 154 1 = true:=by kernel_rfl
theorem sz2 : szB Go.Proofs.Tryz.prog 2 1 = true:=by kernel_rfl
theorem sz22 : szB Go.Proofs.Tryz.prog 22 1 = true:=by kernel_rfl
theorem sz24 : szB Go.Proofs.Tryz.prog 24 4 = true:=by kernel_rfl
theorem sz3 : szB Go.Proofs.Tryz.prog 3 1 = true:=by kernel_rfl
theorem sz35 : szB Go.Proofs.Tryz.prog 35 1 = true:=by kernel_rfl
theorem sz5 : szB Go.Proofs.Tryz.prog 5 1 = true:=by kernel_rfl
theorem sz89 : szB Go.Proofs.Tryz.prog 89 1 = true:=by kernel_rfl
theorem sz9 : szB Go.Proofs.Tryz.prog 9 1 = true:=by kernel_rfl
end Gx
namespace Gx
open Go
def internal_strconv_formatBase10 (x0 : Sl) (x1 : Int) : M Unit:=M.fail
theorem S_internal_strconv_formatBase10 (x0 : Sl) (x1 : Int) : Sound Go.Proofs.Tryz.prog 229 #[(x0 : Sl).v,.int .u64 x1] (fun (r : Unit)=>.tuple #[]) (internal_strconv_formatBase10 x0 x1):=fun w Q H=>H.elim
end Gx
namespace Gx
open Go Go.Proofs Go.Shelf Go.Sort Go.RowKit
set_option linter.unusedVariables false
set_option linter.unusedSimpArgs false
set_option maxRecDepth 100000
def libRen : Go.Shelf.Ren:=⟨fun | 125=>167 | 128=>216 | 129=>217 | 213=>127 | 217=>194 | 219=>155 | 224=>196 | 225=>195 | 240=>150 | 246=>198 | 247=>201 | 265=>168 | 266=>225 | 267=>197 | 276=>184 | 283=>227 | 284=>228 | 285=>229 | 286=>230 | 287=>231 | 314=>226 | 317=>247 | 318=>248 | 319=>249 | 320=>250 | 321=>251 | 322=>252 | 337=>258 | 338=>259 | n=>n,fun | 0=>0 | 2=>2 | 3=>3 | 4=>4 | 5=>5 | 9=>9 | 20=>20 | 21=>21 | 37=>35 | 46=>184 | 51=>215 | 53=>154 | 70=>107 | 72=>109 | 75=>111 | 80=>115 | 146=>218 | 164=>194 | 167=>225 | 171=>221 | 173=>223 | 175=>226 | 212=>245 | 213=>246 | 232=>258 | 233=>259 | n=>n,fun | 1=>0 | 17=>3 | 18=>6 | 19=>7 | n=>n⟩
theorem lib_Lays_n213 : Lays.n213 Go.Proofs.Tryz.prog libRen:={
  mixed:=by kernel_rfl
  f213:=Tryz.func127.trans (congrArg some (by kernel_rfl))
  f265:=Tryz.func168.trans (congrArg some (by kernel_rfl))
  t3:=Tryz.underlying3
  a3:=Tryz.isAgg3
  z3:=Tryz.sizeOf3
  v3:=Tryz.zeroValue3
  t9:=Tryz.underlying9
  a9:=Tryz.isAgg9
  z9:=Tryz.sizeOf9
  v9:=Tryz.zeroValue9 }
theorem lib_Lays_n217 : Lays.n217 Go.Proofs.Tryz.prog libRen:={
  mixed:=by kernel_rfl
  f217:=Tryz.func194.trans (congrArg some (by kernel_rfl))
  f266:=Tryz.func225.trans (congrArg some (by kernel_rfl))
  t3:=Tryz.underlying3
  a3:=Tryz.isAgg3
  z3:=Tryz.sizeOf3
  v3:=Tryz.zeroValue3
  t5:=Tryz.underlying5
  a5:=Tryz.isAgg5
  z5:=Tryz.sizeOf5
  v5:=Tryz.zeroValue5
  t9:=Tryz.underlying9
  a9:=Tryz.isAgg9
  z9:=Tryz.sizeOf9
  v9:=Tryz.zeroValue9 }
theorem lib_LaysC_n247 : LaysC.n247 Go.Proofs.Tryz.prog libRen:={
  mixed:=by kernel_rfl
  f247:=Tryz.func201.trans (congrArg some (by kernel_rfl))
  f287:=Tryz.func231.trans (congrArg some (by kernel_rfl))
  f321:=Tryz.func251.trans (congrArg some (by kernel_rfl))
  f322:=Tryz.func252.trans (congrArg some (by kernel_rfl))
  t0:=Tryz.underlying0
  a0:=Tryz.isAgg0
  z0:=Tryz.sizeOf0
  v0:=Tryz.zeroValue0
  t2:=Tryz.underlying2
  a2:=Tryz.isAgg2
  z2:=Tryz.sizeOf2
  v2:=Tryz.zeroValue2
  t3:=Tryz.underlying3
  a3:=Tryz.isAgg3
  z3:=Tryz.sizeOf3
  v3:=Tryz.zeroValue3
  t4:=Tryz.underlying4
  a4:=Tryz.isAgg4
  z4:=Tryz.sizeOf4
  v4:=Tryz.zeroValue4
  t5:=Tryz.underlying5
  a5:=Tryz.isAgg5
  z5:=Tryz.sizeOf5
  v5:=Tryz.zeroValue5
  t9:=Tryz.underlying9
  a9:=Tryz.isAgg9
  z9:=Tryz.sizeOf9
  v9:=Tryz.zeroValue9
  t21:=Tryz.underlying21
  a21:=Tryz.isAgg21
  z21:=Tryz.sizeOf21
  v21:=Tryz.zeroValue21
  t37:=Tryz.underlying35
  a37:=Tryz.isAgg35
  z37:=Tryz.sizeOf35
  v37:=Tryz.zeroValue35
  t46:=Tryz.underlying184
  a46:=Tryz.isAgg184
  z46:=Tryz.sizeOf184
  v46:=Tryz.zeroValue184
  t53:=Tryz.underlying154
  a53:=Tryz.isAgg154
  z53:=Tryz.sizeOf154
  v53:=Tryz.zeroValue154
  t75:=Tryz.underlying111
  a75:=Tryz.isAgg111
  z75:=Tryz.sizeOf111
  v75:=Tryz.zeroValue111
  t167:=Tryz.underlying225
  a167:=Tryz.isAgg225
  z167:=Tryz.sizeOf225
  v167:=Tryz.zeroValue225
  t175:=Tryz.underlying226
  a175:=Tryz.isAgg226
  z175:=Tryz.sizeOf226
  v175:=Tryz.zeroValue226
  t80:=Tryz.underlying115
  a80:=Tryz.isAgg115
  z80:=Tryz.sizeOf115
  v80:=Tryz.zeroValue115
  i0:=by kernel_rfl
  i2:=by kernel_rfl
  i3:=by kernel_rfl
  i4:=by kernel_rfl
  i5:=by kernel_rfl
  i9:=by kernel_rfl
  i21:=by kernel_rfl
  i37:=by kernel_rfl
  i46:=by kernel_rfl
  i53:=by kernel_rfl
  i75:=by kernel_rfl
  i80:=by kernel_rfl
  i167:=by kernel_rfl
  i175:=by kernel_rfl
  c0:=by kernel_rfl
  c2:=by kernel_rfl
  c3:=by kernel_rfl
  c4:=by kernel_rfl
  c5:=by kernel_rfl
  c9:=by kernel_rfl
  c21:=by kernel_rfl
  c37:=by kernel_rfl
  c46:=by kernel_rfl
  c53:=by kernel_rfl
  c75:=by kernel_rfl
  c80:=by kernel_rfl
  c167:=by kernel_rfl
  c175:=by kernel_rfl }
theorem lib_Lays_n240 : Lays.n240 Go.Proofs.Tryz.prog libRen:={
  mixed:=by kernel_rfl
  f240:=Tryz.func150.trans (congrArg some (by kernel_rfl))
  f276:=Tryz.func184.trans (congrArg some (by kernel_rfl))
  t0:=Tryz.underlying0
  a0:=Tryz.isAgg0
  z0:=Tryz.sizeOf0
  v0:=Tryz.zeroValue0
  t4:=Tryz.underlying4
  a4:=Tryz.isAgg4
  z4:=Tryz.sizeOf4
  v4:=Tryz.zeroValue4
  t9:=Tryz.underlying9
  a9:=Tryz.isAgg9
  z9:=Tryz.sizeOf9
  v9:=Tryz.zeroValue9
  t20:=Tryz.underlying20
  a20:=Tryz.isAgg20
  z20:=Tryz.sizeOf20
  v20:=Tryz.zeroValue20
  t70:=Tryz.underlying107
  a70:=Tryz.isAgg107
  z70:=Tryz.sizeOf107
  v70:=Tryz.zeroValue107
  t72:=Tryz.underlying109
  a72:=Tryz.isAgg109
  z72:=Tryz.sizeOf109
  v72:=Tryz.zeroValue109
  t164:=Tryz.underlying194
  a164:=Tryz.isAgg194
  z164:=Tryz.sizeOf194
  v164:=Tryz.zeroValue194 }
theorem lib_LaysM_n246 : LaysM.n246 Go.Proofs.Tryz.prog libRen:={
  mixed:=by kernel_rfl
  f129:=Tryz.func217.trans (congrArg some (by kernel_rfl))
  f246:=Tryz.func198.trans (congrArg some (by kernel_rfl))
  f283:=Tryz.func227.trans (congrArg some (by kernel_rfl))
  f284:=Tryz.func228.trans (congrArg some (by kernel_rfl))
  f285:=Tryz.func229.trans (congrArg some (by kernel_rfl))
  f286:=Tryz.func230.trans (congrArg some (by kernel_rfl))
  f317:=Tryz.func247.trans (congrArg some (by kernel_rfl))
  f318:=Tryz.func248.trans (congrArg some (by kernel_rfl))
  f319:=Tryz.func249.trans (congrArg some (by kernel_rfl))
  f320:=Tryz.func250.trans (congrArg some (by kernel_rfl))
  f337:=Tryz.func258.trans (congrArg some (by kernel_rfl))
  f338:=Tryz.func259.trans (congrArg some (by kernel_rfl))
  t0:=Tryz.underlying0
  a0:=Tryz.isAgg0
  z0:=Tryz.sizeOf0
  v0:=Tryz.zeroValue0
  t2:=Tryz.underlying2
  a2:=Tryz.isAgg2
  z2:=Tryz.sizeOf2
  v2:=Tryz.zeroValue2
  t3:=Tryz.underlying3
  a3:=Tryz.isAgg3
  z3:=Tryz.sizeOf3
  v3:=Tryz.zeroValue3
  t4:=Tryz.underlying4
  a4:=Tryz.isAgg4
  z4:=Tryz.sizeOf4
  v4:=Tryz.zeroValue4
  t5:=Tryz.underlying5
  a5:=Tryz.isAgg5
  z5:=Tryz.sizeOf5
  v5:=Tryz.zeroValue5
  t9:=Tryz.underlying9
  a9:=Tryz.isAgg9
  z9:=Tryz.sizeOf9
  v9:=Tryz.zeroValue9
  t20:=Tryz.underlying20
  a20:=Tryz.isAgg20
  z20:=Tryz.sizeOf20
  v20:=Tryz.zeroValue20
  t37:=Tryz.underlying35
  a37:=Tryz.isAgg35
  z37:=Tryz.sizeOf35
  v37:=Tryz.zeroValue35
  t46:=Tryz.underlying184
  a46:=Tryz.isAgg184
  z46:=Tryz.sizeOf184
  v46:=Tryz.zeroValue184
  t51:=Tryz.underlying215
  a51:=Tryz.isAgg215
  z51:=Tryz.sizeOf215
  v51:=Tryz.zeroValue215
  t53:=Tryz.underlying154
  a53:=Tryz.isAgg154
  z53:=Tryz.sizeOf154
  v53:=Tryz.zeroValue154
  t171:=Tryz.underlying221
  a171:=Tryz.isAgg221
  z171:=Tryz.sizeOf221
  v171:=Tryz.zeroValue221
  t173:=Tryz.underlying223
  a173:=Tryz.isAgg223
  z173:=Tryz.sizeOf223
  v173:=Tryz.zeroValue223
  t212:=Tryz.underlying245
  a212:=Tryz.isAgg245
  z212:=Tryz.sizeOf245
  v212:=Tryz.zeroValue245
  t213:=Tryz.underlying246
  a213:=Tryz.isAgg246
  z213:=Tryz.sizeOf246
  t232:=Tryz.underlying258
  a232:=Tryz.isAgg258
  z232:=Tryz.sizeOf258
  v232:=Tryz.zeroValue258
  t233:=Tryz.underlying259
  a233:=Tryz.isAgg259
  z233:=Tryz.sizeOf259
  v233:=Tryz.zeroValue259
  g17:=by kernel_rfl
  g18:=by kernel_rfl
  g19:=by kernel_rfl
  i0:=by kernel_rfl
  i2:=by kernel_rfl
  i3:=by kernel_rfl
  i4:=by kernel_rfl
  i5:=by kernel_rfl
  i9:=by kernel_rfl
  i20:=by kernel_rfl
  i37:=by kernel_rfl
  i46:=by kernel_rfl
  i51:=by kernel_rfl
  i53:=by kernel_rfl
  i171:=by kernel_rfl
  i173:=by kernel_rfl
  i212:=by kernel_rfl
  i232:=by kernel_rfl
  i233:=by kernel_rfl
  m17:=by kernel_rfl
  m18:=by kernel_rfl
  m19:=by kernel_rfl }
def internal_bytealg_CompareString (x0 x1 : ByteArray) : M Int:=M.pure (Lib.compareBytes x0.data.toList x1.data.toList)
theorem S_internal_bytealg_CompareString (x0 x1 : ByteArray) : Sound Go.Proofs.Tryz.prog 127 #[.string x0,.string x1] (fun (r : Int)=>.int .i64 r) (internal_bytealg_CompareString x0 x1):=by
  intro w Q H
  refine (Any.bytealg_CompareString lib_Lays_n213 x0 x1 w).mono ?_
  rintro e w' ⟨rfl,rfl⟩
  exact ⟨_,rfl,H,Rest.refl _⟩
def internal_stringslite_IndexByte (x0 : ByteArray) (x1 : Int) : M Int:=M.pure (Lib.indexByte x0.data.toList x1.toNat.toUInt8)
theorem S_internal_stringslite_IndexByte (x0 : ByteArray) (x1 : Int) : Sound Go.Proofs.Tryz.prog 194 #[.string x0,.int .u8 x1] (fun (r : Int)=>.int .i64 r) (internal_stringslite_IndexByte x0 x1):=by
  intro w Q H
  refine (Any.stringslite_IndexByte lib_Lays_n217 x0 x1 w).mono ?_
  rintro e w' ⟨rfl,rfl⟩
  exact ⟨_,rfl,H,Rest.refl _⟩
def internal_strconv_ParseInt (x0 : ByteArray) (x1 : Int) (x2 : Int) : M (Int × Value) :=
  ⟨fun h Q=>x1 = 10 ∧ x2 = 64 ∧ x0.size ≤ 9223372036854775806 ∧ ∀ h' : Heap,h.size ≤ h'.size → (∀ i,i < h.size → h'[i]? = h[i]?) → (match Lib.parseIntB 64 x0.data.toList with | .ok v=>Q (v,.nilIface) h' | .range=>Q (Lib.intSat 64 x0.data.toList,.iface 225 (.int .i64 1)) h' | _=>Q (0,.iface 225 (.int .i64 2)) h'),
   fun hq ⟨h0,h1,h2,h3⟩=>⟨h0,h1,h2,fun h' a b=>by have h5:=h3 h' a b; revert h5; cases Lib.parseIntB 64 x0.data.toList <;> exact fun h5=>hq _ _ h5⟩⟩
theorem S_internal_strconv_ParseInt (x0 : ByteArray) (x1 : Int) (x2 : Int) : Sound Go.Proofs.Tryz.prog 201 #[.string x0,.int .i64 x1,.int .i64 x2] (fun (r : Int × Value)=>.tuple #[.int .i64 r.1,r.2]) (internal_strconv_ParseInt x0 x1 x2):=by
  intro w Q ⟨h0,h1,h2,h4⟩
  subst h0
  subst h1
  refine (Any.internal_strconv_ParseInt_10_all64 lib_LaysC_n247 x0 h2 w).mono ?_
  rintro e w' ⟨rfl,hw⟩
  have hb : w.heap.size ≤ w'.heap.size ∧ (∀ i,i < w.heap.size → w'.heap[i]? = w.heap[i]?) ∧ Rest w w':=by
    rcases hw with rfl | ⟨t,rfl⟩
    · exact ⟨Nat.le_refl _,fun _ _=>rfl,Rest.refl _⟩
    · have hb:=Lib.bytesWorld_below w (5) t
      exact ⟨hb.size,hb.block,⟨hb.os,hb.output,hb.tape,Nat.le_succ w.drawn⟩⟩
  obtain ⟨b1,b2,b3⟩:=hb
  have h5:=h4 _ b1 b2
  cases hp : Lib.parseIntB 64 x0.data.toList <;> (rw [hp] at h5; exact ⟨_,rfl,h5,b3⟩)
def strconv_syntaxError (x0 : ByteArray) (x1 : ByteArray) : M (Option Addr):=M.fail
theorem S_strconv_syntaxError (x0 : ByteArray) (x1 : ByteArray) : Sound Go.Proofs.Tryz.prog 232 #[.string x0,.string x1] (fun (r : Option Addr)=>.pointer r) (strconv_syntaxError x0 x1):=fun w Q H=>H.elim
def strconv_baseError (x0 : ByteArray) (x1 : ByteArray) (x2 : Int) : M (Option Addr):=M.fail
theorem S_strconv_baseError (x0 : ByteArray) (x1 : ByteArray) (x2 : Int) : Sound Go.Proofs.Tryz.prog 234 #[.string x0,.string x1,.int .i64 x2] (fun (r : Option Addr)=>.pointer r) (strconv_baseError x0 x1 x2):=fun w Q H=>H.elim
def strconv_bitSizeError (x0 : ByteArray) (x1 : ByteArray) (x2 : Int) : M (Option Addr):=M.fail
theorem S_strconv_bitSizeError (x0 : ByteArray) (x1 : ByteArray) (x2 : Int) : Sound Go.Proofs.Tryz.prog 235 #[.string x0,.string x1,.int .i64 x2] (fun (r : Option Addr)=>.pointer r) (strconv_bitSizeError x0 x1 x2):=fun w Q H=>H.elim
theorem lib_X72 : Builder.X72 Go.Proofs.Tryz.prog libRen:={ sizeBuilder:=by kernel_rfl,liesBuilder:=by kernel_rfl }
def strings_Builder_copyCheck (x0 : Option Addr) : M Unit :=
  ⟨fun h Q=>∃ b p v,x0 = some ⟨b,0,none⟩ ∧ h[b]? = some (.cells #[p,v] 109 (0,0)) ∧ ((p = .pointer (some ⟨b,0,none⟩) ∧ Q () h) ∨ (p = .pointer none ∧ Q () (hset h ⟨b,0,none⟩ (.pointer (some ⟨b,0,none⟩))))),
   fun hq ⟨b,p,v,h1,h2,h3⟩=>⟨b,p,v,h1,h2,h3.imp (fun ⟨a,c⟩=>⟨a,hq _ _ c⟩) (fun ⟨a,c⟩=>⟨a,hq _ _ c⟩)⟩⟩
theorem S_strings_Builder_copyCheck (x0 : Option Addr) : Sound Go.Proofs.Tryz.prog 150 #[.pointer x0] (fun (r : Unit)=>.tuple #[]) (strings_Builder_copyCheck x0):=by
  intro w Q ⟨b,p,v,h1,h2,h3⟩
  subst h1
  have hc : w.cell? ⟨b,0,none⟩ = some p:=by rw [cell_h]; simp [hcell,h2]
  rcases h3 with ⟨rfl,hq⟩ | ⟨rfl,hq⟩
  · refine (Any.Builder_copyCheck_used lib_Lays_n240 lib_X72 b w hc).mono ?_
    rintro e w' ⟨rfl,rfl⟩
    exact ⟨(),rfl,hq,Rest.refl _⟩
  · refine (Any.Builder_copyCheck_fresh lib_Lays_n240 lib_X72 b w hc (by simp [World.shape?,h2]; rfl) (by simp [World.frozen?,h2])).mono ?_
    rintro e w' ⟨rfl,rfl⟩
    exact ⟨(),rfl,hq,⟨rfl,rfl,rfl,Nat.le_refl _⟩⟩
def PowTab (h : Heap) : Prop:=∃ fz ty,h[3]? = some (.cells (Lib.pow10Tab.map fun z=>Value.int .u64 z).toArray ty fz)
def lib_FormatInt10 (x0 : Int) : M ByteArray :=
  ⟨fun h Q=>-9223372036854775808 ≤ x0 ∧ x0 ≤ 9223372036854775807 ∧ PowTab h ∧ ∀ h' : Heap,h.size ≤ h'.size → (∀ i,i < h.size → h'[i]? = h[i]?) → Q ⟨(Lib.itoa x0).toArray⟩ h',
   fun hq ⟨h2,h3,h4,h5⟩=>⟨h2,h3,h4,fun h' a b=>hq _ _ (h5 h' a b)⟩⟩
theorem S_lib_FormatInt10 (x0 : Int) : Sound Go.Proofs.Tryz.prog 198 #[.int .i64 x0,.int .i64 10] (fun (r : ByteArray)=>.string r) (lib_FormatInt10 x0):=by
  intro w Q ⟨h2,h3,⟨fz,ty,h4⟩,h5⟩
  refine (Any.internal_strconv_FormatInt_10 lib_LaysM_n246 x0 h2 h3 w ?_).mono ?_
  · show w.var? Go.Proofs.Tryz.prog _ = _
    have hg : Go.Proofs.Tryz.prog.globalNamed "internal/strconv.uint64pow10" = some 3 := by kernel_rfl
    simp only [World.var?,hg,Option.bind_some,h4]
  · rintro e w' ⟨rfl,k,os,rfl⟩
    refine ⟨_,rfl,h5 _ ?_ ?_,⟨rfl,rfl,rfl,Nat.le_add_right _ _⟩⟩
    · show w.heap.size ≤ (w.heap ++ os).size
      simp
    · intro i hi
      show (w.heap ++ os)[i]? = _
      rw [Array.getElem?_append_left hi]
def DbTab (h : Heap) : Prop:=∃ cs ty fz,h[7]? = some (.cells cs ty fz) ∧ cs[15]? = some (.int .u8 4)
end Gx
namespace Gx
open Go
set_option linter.unusedVariables false
set_option maxRecDepth 100000
def cmp_Or_int_l1 (c3_6 : Int) (c6_7 : Sl) (c7_8 : Int) (self1 : (Int) → M (Int)) : (Int) → M (Int):=fun s=>match s with
  | x8_5=>do
    M.ite (decide (x8_5 < c7_8)) (do
      let x10_14 ← ixL c6_7 x8_5 1
      let x11_15 ← ldI .i64 x10_14
      M.ite (x11_15 != c3_6) (do
        M.pure x11_15
        ) (do
        self1 (IntKind.wrap .i64 (x8_5 + 1))
        )
      ) (do
      M.pure c3_6
      )
def cmp_Or_int (x0 : Sl) : M (Int):=do
  M.loop (cmp_Or_int_l1 0 x0 (x0.len : Int)) 0
theorem S_cmp_Or_int (x0 : Sl) : Sound Go.Proofs.Tryz.prog 69 #[(x0 : Sl).v] (fun (r : Int)=>.int .i64 r) (cmp_Or_int x0):=by
  refine sound_of [(0,(x0 : Sl).v)] Go.Proofs.Tryz.func69 rfl rfl (Nat.le_of_ble_eq_true rfl) (args_of ⟨rfl,trivial⟩) (fun w0 w Q R a hret hE hR H=>?_)
  unfold cmp_Or_int at H
  refine w_seq (fun K hK_1=>?_)
  refine t_region ?_
  refine t_val (v:=.int .i64 0) rfl rfl hE rfl (r_assign hE rfl) (fun a hE=>?_)
  refine t_nil ?_
  refine hK_1 _ _ ?_
  refine w_seq (fun K hK_2=>?_)
  refine t_region ?_
  refine t_val (v:=.int .i64 0) rfl rfl hE rfl (r_assign hE rfl) (fun a hE=>?_)
  refine t_nil ?_
  refine hK_2 _ _ ?_
  refine w_seq (fun K hK_3=>?_)
  refine w_seq (fun K hK_4=>?_)
  refine t_region ?_
  refine t_val (v:=(x0 : Sl).v) rfl rfl hE rfl (r_move hE rfl) (fun a hE=>?_)
  refine t_val (v:=.int .i64 (x0.len : Int)) rfl rfl hE rfl (r_len hE rfl 3 un136) (fun a hE=>?_)
  refine t_val (v:=.int .i64 0) rfl rfl hE rfl (r_move hE rfl) (fun a hE=>?_)
  refine t_nil ?_
  refine hK_4 _ _ ?_
  refine w_block ?_
  refine l_loop (fun (s : Int)=>(⟨18,[]⟩ : Frm)) (fun (s : Int)=>[(3,.int .i64 0),(6,(x0 : Sl).v),(7,.int .i64 (x0.len : Int)),(8,.int .i64 s)]) H (hE.cut (.cons rfl (.cons rfl (.cons rfl (.cons rfl Subs.nil))))) hR (fun Y self1 hY_9 x8_5 a w hE hR H=>?_)
  replace hE : Env (⟨18,[]⟩ : Frm) a [(3,.int .i64 0),(6,(x0 : Sl).v),(7,.int .i64 (x0.len : Int)),(8,.int .i64 x8_5)]:=hE
  replace H : (cmp_Or_int_l1 0 x0 (x0.len : Int) self1 x8_5).wp w.heap Q:=H
  unfold cmp_Or_int_l1 at H
  refine w_seq (fun K hK_10=>?_)
  refine t_region ?_
  refine t_val (v:=.bool (decide (x8_5 < (x0.len : Int)))) rfl rfl hE rfl (r_bin hE rfl rfl g_int b_lss) (fun a hE=>?_)
  refine t_nil ?_
  refine hK_10 _ _ ?_
  refine w_seq (fun K hK_11=>?_)
  refine w_cond (decide (x8_5 < (x0.len : Int))) hE rfl (fun hb=>?_) (fun hb=>?_)
  · replace H:=M.ite_t hb H
    refine w_skip ?_
    refine hK_11 _ _ ?_
    refine w_seq (fun K hK_12=>?_)
    refine w_block ?_
    refine w_seq (fun K hK_13=>?_)
    refine t_region ?_
    obtain ⟨x10_14,qx10_14,H⟩:=H
    refine t_val (v:=.pointer (some x10_14)) rfl rfl hE rfl (r_indexAddrL hE rfl rfl un136 sz3 qx10_14) (fun a hE=>?_)
    obtain ⟨x11_15,qx11_15,H⟩:=H
    refine t_val (v:=.int .i64 x11_15) rfl rfl hE rfl (r_load hE rfl sc3 qx11_15) (fun a hE=>?_)
    refine t_val (v:=.int .i64 x11_15) rfl rfl hE rfl (r_assign hE rfl) (fun a hE=>?_)
    refine t_nil ?_
    refine hK_13 _ _ ?_
    refine w_seq (fun K hK_16=>?_)
    refine t_region ?_
    refine t_val (v:=.int .i64 x11_15) rfl rfl hE rfl (r_move hE rfl) (fun a hE=>?_)
    refine t_val (v:=.int .i64 0) rfl rfl hE rfl (r_move hE rfl) (fun a hE=>?_)
    refine t_val (v:=.bool (x11_15 != 0)) rfl rfl hE rfl (r_bin hE rfl rfl g_int b_neq) (fun a hE=>?_)
    refine t_nil ?_
    refine hK_16 _ _ ?_
    refine w_cond (x11_15 != 0) hE rfl (fun hb=>?_) (fun hb=>?_)
    · replace H:=M.ite_t hb H
      refine w_seq (fun K hK_17=>?_)
      refine t_region ?_
      refine t_val (v:=.int .i64 x11_15) rfl rfl hE rfl (r_move hE rfl) (fun a hE=>?_)
      refine t_val (v:=.int .i64 x11_15) rfl rfl hE rfl (r_assign hE rfl) (fun a hE=>?_)
      refine t_nil ?_
      refine hK_17 _ _ ?_
      refine w_ret ?_
      exact hret _ _ _ x11_15 _ hE hR (res_run hE rfl (RV.tmp rfl RV.nil)) rfl H
    · replace H:=M.ite_f hb H
      refine w_skip ?_
      refine hK_12 _ _ ?_
      refine t_region ?_
      refine t_val (v:=.int .i64 (IntKind.wrap .i64 (x8_5 + 1))) rfl rfl hE rfl (r_bin hE rfl rfl g_int b_add) (fun a hE=>?_)
      refine t_val (v:=.int .i64 (IntKind.wrap .i64 (x8_5 + 1))) rfl rfl hE rfl (r_move hE rfl) (fun a hE=>?_)
      refine t_nil ?_
      exact hY_9 (IntKind.wrap .i64 (x8_5 + 1)) _ _ (hE.cut (.cons rfl (.cons rfl (.cons rfl (.cons rfl Subs.nil))))) hR H
  · replace H:=M.ite_f hb H
    refine w_exit ?_
    refine Xu.same ?_
    refine hK_3 _ _ ?_
    refine w_seq (fun K hK_18=>?_)
    refine t_region ?_
    refine t_val (v:=.int .i64 0) rfl rfl hE rfl (r_move hE rfl) (fun a hE=>?_)
    refine t_val (v:=.int .i64 0) rfl rfl hE rfl (r_assign hE rfl) (fun a hE=>?_)
    refine t_nil ?_
    refine hK_18 _ _ ?_
    refine w_ret ?_
    exact hret _ _ _ 0 _ hE hR (res_run hE rfl (RV.tmp rfl RV.nil)) rfl H

def cmp_isNaN_int (x0 : Int) : M (Bool):=do
  M.pure (x0 != x0)
theorem S_cmp_isNaN_int (x0 : Int) : Sound Go.Proofs.Tryz.prog 125 #[.int .i64 x0] (fun (r : Bool)=>.bool r) (cmp_isNaN_int x0):=by
  refine sound_of [(0,.int .i64 x0)] Go.Proofs.Tryz.func125 rfl rfl (Nat.le_of_ble_eq_true rfl) (args_of ⟨rfl,trivial⟩) (fun w0 w Q R a hret hE hR H=>?_)
  unfold cmp_isNaN_int at H
  refine w_seq (fun K hK_1=>?_)
  refine t_region ?_
  refine t_val (v:=.bool false) rfl rfl hE rfl (r_assign hE rfl) (fun a hE=>?_)
  refine t_nil ?_
  refine hK_1 _ _ ?_
  refine w_seq (fun K hK_2=>?_)
  refine t_region ?_
  refine t_val (v:=.int .i64 x0) rfl rfl hE rfl (r_move hE rfl) (fun a hE=>?_)
  refine t_val (v:=.int .i64 x0) rfl rfl hE rfl (r_move hE rfl) (fun a hE=>?_)
  refine t_val (v:=.bool (x0 != x0)) rfl rfl hE rfl (r_bin hE rfl rfl g_int b_neq) (fun a hE=>?_)
  refine t_val (v:=.bool (x0 != x0)) rfl rfl hE rfl (r_assign hE rfl) (fun a hE=>?_)
  refine t_nil ?_
  refine hK_2 _ _ ?_
  refine w_ret ?_
  exact hret _ _ _ (x0 != x0) _ hE hR (res_run hE rfl (RV.tmp rfl RV.nil)) rfl H

def cmp_Compare_int (x0 : Int) (x1 : Int) : M (Int):=do
  let x8_3 ← cmp_isNaN_int x0
  let x10_5 ← cmp_isNaN_int x1
  M.ite x8_3 (do
    M.ite x10_5 (do
      M.pure 0
      ) (do
      M.pure (-1)
      )
    ) (do
    M.ite x10_5 (do
      M.pure 1
      ) (do
      M.ite (decide (x0 < x1)) (do
        M.pure (-1)
        ) (do
        M.ite (decide (x0 > x1)) (do
          M.pure 1
          ) (do
          M.pure 0
          )
        )
      )
    )
theorem S_cmp_Compare_int (x0 : Int) (x1 : Int) : Sound Go.Proofs.Tryz.prog 70 #[.int .i64 x0,.int .i64 x1] (fun (r : Int)=>.int .i64 r) (cmp_Compare_int x0 x1):=by
  refine sound_of [(0,.int .i64 x0),(1,.int .i64 x1)] Go.Proofs.Tryz.func70 rfl rfl (Nat.le_of_ble_eq_true rfl) (args_of ⟨rfl,rfl,trivial⟩) (fun w0 w Q R a hret hE hR H=>?_)
  unfold cmp_Compare_int at H
  refine w_seq (fun K hK_1=>?_)
  refine t_region ?_
  refine t_val (v:=.int .i64 0) rfl rfl hE rfl (r_assign hE rfl) (fun a hE=>?_)
  refine t_nil ?_
  refine hK_1 _ _ ?_
  refine w_seq (fun K hK_2=>?_)
  refine t_region ?_
  refine t_val (v:=.int .i64 x0) rfl rfl hE rfl (r_move hE rfl) (fun a hE=>?_)
  refine t_call hE hR cl_cmp_isNaN_int rfl (S_cmp_isNaN_int x0) (M.unbind H) (fun x8_3 a w ea hR H=>?_)
  have hE:=Env.put_some hE rfl ea; clear ea
  refine t_val (v:=.bool x8_3) rfl rfl hE rfl (r_assign hE rfl) (fun a hE=>?_)
  refine t_nil ?_
  refine hK_2 _ _ ?_
  refine w_seq (fun K hK_4=>?_)
  refine t_region ?_
  refine t_val (v:=.int .i64 x1) rfl rfl hE rfl (r_move hE rfl) (fun a hE=>?_)
  refine t_call hE hR cl_cmp_isNaN_int rfl (S_cmp_isNaN_int x1) (M.unbind H) (fun x10_5 a w ea hR H=>?_)
  have hE:=Env.put_some hE rfl ea; clear ea
  refine t_val (v:=.bool x10_5) rfl rfl hE rfl (r_assign hE rfl) (fun a hE=>?_)
  refine t_nil ?_
  refine hK_4 _ _ ?_
  refine w_seq (fun K hK_6=>?_)
  refine w_seq (fun K hK_7=>?_)
  refine t_region ?_
  refine t_val (v:=.bool x8_3) rfl rfl hE rfl (r_move hE rfl) (fun a hE=>?_)
  refine t_nil ?_
  refine hK_7 _ _ ?_
  refine w_cond x8_3 hE rfl (fun hb=>?_) (fun hb=>?_)
  · replace H:=M.ite_t hb H
    refine w_seq (fun K hK_8=>?_)
    refine w_seq (fun K hK_9=>?_)
    refine t_region ?_
    refine t_val (v:=.bool x10_5) rfl rfl hE rfl (r_move hE rfl) (fun a hE=>?_)
    refine t_nil ?_
    refine hK_9 _ _ ?_
    refine w_cond x10_5 hE rfl (fun hb=>?_) (fun hb=>?_)
    · replace H:=M.ite_t hb H
      refine w_seq (fun K hK_10=>?_)
      refine t_region ?_
      refine t_val (v:=.int .i64 0) rfl rfl hE rfl (r_assign hE rfl) (fun a hE=>?_)
      refine t_nil ?_
      refine hK_10 _ _ ?_
      refine w_ret ?_
      exact hret _ _ _ 0 _ hE hR (res_run hE rfl (RV.tmp rfl RV.nil)) rfl H
    · replace H:=M.ite_f hb H
      refine w_skip ?_
      refine hK_8 _ _ ?_
      refine w_seq (fun K hK_11=>?_)
      refine t_region ?_
      refine t_val (v:=.int .i64 (-1)) rfl rfl hE rfl (r_assign hE rfl) (fun a hE=>?_)
      refine t_nil ?_
      refine hK_11 _ _ ?_
      refine w_ret ?_
      exact hret _ _ _ (-1) _ hE hR (res_run hE rfl (RV.tmp rfl RV.nil)) rfl H
  · replace H:=M.ite_f hb H
    refine w_skip ?_
    refine hK_6 _ _ ?_
    refine w_seq (fun K hK_12=>?_)
    refine w_seq (fun K hK_13=>?_)
    refine t_region ?_
    refine t_val (v:=.bool x10_5) rfl rfl hE rfl (r_move hE rfl) (fun a hE=>?_)
    refine t_nil ?_
    refine hK_13 _ _ ?_
    refine w_cond x10_5 hE rfl (fun hb=>?_) (fun hb=>?_)
    · replace H:=M.ite_t hb H
      refine w_seq (fun K hK_14=>?_)
      refine t_region ?_
      refine t_val (v:=.int .i64 1) rfl rfl hE rfl (r_assign hE rfl) (fun a hE=>?_)
      refine t_nil ?_
      refine hK_14 _ _ ?_
      refine w_ret ?_
      exact hret _ _ _ 1 _ hE hR (res_run hE rfl (RV.tmp rfl RV.nil)) rfl H
    · replace H:=M.ite_f hb H
      refine w_skip ?_
      refine hK_12 _ _ ?_
      refine w_seq (fun K hK_15=>?_)
      refine w_seq (fun K hK_16=>?_)
      refine t_region ?_
      refine t_val (v:=.int .i64 x0) rfl rfl hE rfl (r_move hE rfl) (fun a hE=>?_)
      refine t_val (v:=.int .i64 x1) rfl rfl hE rfl (r_move hE rfl) (fun a hE=>?_)
      refine t_val (v:=.bool (decide (x0 < x1))) rfl rfl hE rfl (r_bin hE rfl rfl g_int b_lss) (fun a hE=>?_)
      refine t_nil ?_
      refine hK_16 _ _ ?_
      refine w_cond (decide (x0 < x1)) hE rfl (fun hb=>?_) (fun hb=>?_)
      · replace H:=M.ite_t hb H
        refine w_seq (fun K hK_17=>?_)
        refine t_region ?_
        refine t_val (v:=.int .i64 (-1)) rfl rfl hE rfl (r_assign hE rfl) (fun a hE=>?_)
        refine t_nil ?_
        refine hK_17 _ _ ?_
        refine w_ret ?_
        exact hret _ _ _ (-1) _ hE hR (res_run hE rfl (RV.tmp rfl RV.nil)) rfl H
      · replace H:=M.ite_f hb H
        refine w_skip ?_
        refine hK_15 _ _ ?_
        refine w_seq (fun K hK_18=>?_)
        refine w_seq (fun K hK_19=>?_)
        refine t_region ?_
        refine t_val (v:=.int .i64 x0) rfl rfl hE rfl (r_move hE rfl) (fun a hE=>?_)
        refine t_val (v:=.int .i64 x1) rfl rfl hE rfl (r_move hE rfl) (fun a hE=>?_)
        refine t_val (v:=.bool (decide (x0 > x1))) rfl rfl hE rfl (r_bin hE rfl rfl g_int b_gtr) (fun a hE=>?_)
        refine t_nil ?_
        refine hK_19 _ _ ?_
        refine w_cond (decide (x0 > x1)) hE rfl (fun hb=>?_) (fun hb=>?_)
        · replace H:=M.ite_t hb H
          refine w_seq (fun K hK_20=>?_)
          refine t_region ?_
          refine t_val (v:=.int .i64 1) rfl rfl hE rfl (r_assign hE rfl) (fun a hE=>?_)
          refine t_nil ?_
          refine hK_20 _ _ ?_
          refine w_ret ?_
          exact hret _ _ _ 1 _ hE hR (res_run hE rfl (RV.tmp rfl RV.nil)) rfl H
        · replace H:=M.ite_f hb H
          refine w_skip ?_
          refine hK_18 _ _ ?_
          refine w_seq (fun K hK_21=>?_)
          refine t_region ?_
          refine t_val (v:=.int .i64 0) rfl rfl hE rfl (r_assign hE rfl) (fun a hE=>?_)
          refine t_nil ?_
          refine hK_21 _ _ ?_
          refine w_ret ?_
          exact hret _ _ _ 0 _ hE hR (res_run hE rfl (RV.tmp rfl RV.nil)) rfl H

def cmp_isNaN_int64 (x0 : Int) : M (Bool):=do
  M.pure (x0 != x0)
theorem S_cmp_isNaN_int64 (x0 : Int) : Sound Go.Proofs.Tryz.prog 126 #[.int .i64 x0] (fun (r : Bool)=>.bool r) (cmp_isNaN_int64 x0):=by
  refine sound_of [(0,.int .i64 x0)] Go.Proofs.Tryz.func126 rfl rfl (Nat.le_of_ble_eq_true rfl) (args_of ⟨rfl,trivial⟩) (fun w0 w Q R a hret hE hR H=>?_)
  unfold cmp_isNaN_int64 at H
  refine w_seq (fun K hK_1=>?_)
  refine t_region ?_
  refine t_val (v:=.bool false) rfl rfl hE rfl (r_assign hE rfl) (fun a hE=>?_)
  refine t_nil ?_
  refine hK_1 _ _ ?_
  refine w_seq (fun K hK_2=>?_)
  refine t_region ?_
  refine t_val (v:=.int .i64 x0) rfl rfl hE rfl (r_move hE rfl) (fun a hE=>?_)
  refine t_val (v:=.int .i64 x0) rfl rfl hE rfl (r_move hE rfl) (fun a hE=>?_)
  refine t_val (v:=.bool (x0 != x0)) rfl rfl hE rfl (r_bin hE rfl rfl g_int b_neq) (fun a hE=>?_)
  refine t_val (v:=.bool (x0 != x0)) rfl rfl hE rfl (r_assign hE rfl) (fun a hE=>?_)
  refine t_nil ?_
  refine hK_2 _ _ ?_
  refine w_ret ?_
  exact hret _ _ _ (x0 != x0) _ hE hR (res_run hE rfl (RV.tmp rfl RV.nil)) rfl H

def cmp_Compare_int64 (x0 : Int) (x1 : Int) : M (Int):=do
  let x8_3 ← cmp_isNaN_int64 x0
  let x10_5 ← cmp_isNaN_int64 x1
  M.ite x8_3 (do
    M.ite x10_5 (do
      M.pure 0
      ) (do
      M.pure (-1)
      )
    ) (do
    M.ite x10_5 (do
      M.pure 1
      ) (do
      M.ite (decide (x0 < x1)) (do
        M.pure (-1)
        ) (do
        M.ite (decide (x0 > x1)) (do
          M.pure 1
          ) (do
          M.pure 0
          )
        )
      )
    )
theorem S_cmp_Compare_int64 (x0 : Int) (x1 : Int) : Sound Go.Proofs.Tryz.prog 71 #[.int .i64 x0,.int .i64 x1] (fun (r : Int)=>.int .i64 r) (cmp_Compare_int64 x0 x1):=by
  refine sound_of [(0,.int .i64 x0),(1,.int .i64 x1)] Go.Proofs.Tryz.func71 rfl rfl (Nat.le_of_ble_eq_true rfl) (args_of ⟨rfl,rfl,trivial⟩) (fun w0 w Q R a hret hE hR H=>?_)
  unfold cmp_Compare_int64 at H
  refine w_seq (fun K hK_1=>?_)
  refine t_region ?_
  refine t_val (v:=.int .i64 0) rfl rfl hE rfl (r_assign hE rfl) (fun a hE=>?_)
  refine t_nil ?_
  refine hK_1 _ _ ?_
  refine w_seq (fun K hK_2=>?_)
  refine t_region ?_
  refine t_val (v:=.int .i64 x0) rfl rfl hE rfl (r_move hE rfl) (fun a hE=>?_)
  refine t_call hE hR cl_cmp_isNaN_int64 rfl (S_cmp_isNaN_int64 x0) (M.unbind H) (fun x8_3 a w ea hR H=>?_)
  have hE:=Env.put_some hE rfl ea; clear ea
  refine t_val (v:=.bool x8_3) rfl rfl hE rfl (r_assign hE rfl) (fun a hE=>?_)
  refine t_nil ?_
  refine hK_2 _ _ ?_
  refine w_seq (fun K hK_4=>?_)
  refine t_region ?_
  refine t_val (v:=.int .i64 x1) rfl rfl hE rfl (r_move hE rfl) (fun a hE=>?_)
  refine t_call hE hR cl_cmp_isNaN_int64 rfl (S_cmp_isNaN_int64 x1) (M.unbind H) (fun x10_5 a w ea hR H=>?_)
  have hE:=Env.put_some hE rfl ea; clear ea
  refine t_val (v:=.bool x10_5) rfl rfl hE rfl (r_assign hE rfl) (fun a hE=>?_)
  refine t_nil ?_
  refine hK_4 _ _ ?_
  refine w_seq (fun K hK_6=>?_)
  refine w_seq (fun K hK_7=>?_)
  refine t_region ?_
  refine t_val (v:=.bool x8_3) rfl rfl hE rfl (r_move hE rfl) (fun a hE=>?_)
  refine t_nil ?_
  refine hK_7 _ _ ?_
  refine w_cond x8_3 hE rfl (fun hb=>?_) (fun hb=>?_)
  · replace H:=M.ite_t hb H
    refine w_seq (fun K hK_8=>?_)
    refine w_seq (fun K hK_9=>?_)
    refine t_region ?_
    refine t_val (v:=.bool x10_5) rfl rfl hE rfl (r_move hE rfl) (fun a hE=>?_)
    refine t_nil ?_
    refine hK_9 _ _ ?_
    refine w_cond x10_5 hE rfl (fun hb=>?_) (fun hb=>?_)
    · replace H:=M.ite_t hb H
      refine w_seq (fun K hK_10=>?_)
      refine t_region ?_
      refine t_val (v:=.int .i64 0) rfl rfl hE rfl (r_assign hE rfl) (fun a hE=>?_)
      refine t_nil ?_
      refine hK_10 _ _ ?_
      refine w_ret ?_
      exact hret _ _ _ 0 _ hE hR (res_run hE rfl (RV.tmp rfl RV.nil)) rfl H
    · replace H:=M.ite_f hb H
      refine w_skip ?_
      refine hK_8 _ _ ?_
      refine w_seq (fun K hK_11=>?_)
      refine t_region ?_
      refine t_val (v:=.int .i64 (-1)) rfl rfl hE rfl (r_assign hE rfl) (fun a hE=>?_)
      refine t_nil ?_
      refine hK_11 _ _ ?_
      refine w_ret ?_
      exact hret _ _ _ (-1) _ hE hR (res_run hE rfl (RV.tmp rfl RV.nil)) rfl H
  · replace H:=M.ite_f hb H
    refine w_skip ?_
    refine hK_6 _ _ ?_
    refine w_seq (fun K hK_12=>?_)
    refine w_seq (fun K hK_13=>?_)
    refine t_region ?_
    refine t_val (v:=.bool x10_5) rfl rfl hE rfl (r_move hE rfl) (fun a hE=>?_)
    refine t_nil ?_
    refine hK_13 _ _ ?_
    refine w_cond x10_5 hE rfl (fun hb=>?_) (fun hb=>?_)
    · replace H:=M.ite_t hb H
      refine w_seq (fun K hK_14=>?_)
      refine t_region ?_
      refine t_val (v:=.int .i64 1) rfl rfl hE rfl (r_assign hE rfl) (fun a hE=>?_)
      refine t_nil ?_
      refine hK_14 _ _ ?_
      refine w_ret ?_
      exact hret _ _ _ 1 _ hE hR (res_run hE rfl (RV.tmp rfl RV.nil)) rfl H
    · replace H:=M.ite_f hb H
      refine w_skip ?_
      refine hK_12 _ _ ?_
      refine w_seq (fun K hK_15=>?_)
      refine w_seq (fun K hK_16=>?_)
      refine t_region ?_
      refine t_val (v:=.int .i64 x0) rfl rfl hE rfl (r_move hE rfl) (fun a hE=>?_)
      refine t_val (v:=.int .i64 x1) rfl rfl hE rfl (r_move hE rfl) (fun a hE=>?_)
      refine t_val (v:=.bool (decide (x0 < x1))) rfl rfl hE rfl (r_bin hE rfl rfl g_int b_lss) (fun a hE=>?_)
      refine t_nil ?_
      refine hK_16 _ _ ?_
      refine w_cond (decide (x0 < x1)) hE rfl (fun hb=>?_) (fun hb=>?_)
      · replace H:=M.ite_t hb H
        refine w_seq (fun K hK_17=>?_)
        refine t_region ?_
        refine t_val (v:=.int .i64 (-1)) rfl rfl hE rfl (r_assign hE rfl) (fun a hE=>?_)
        refine t_nil ?_
        refine hK_17 _ _ ?_
        refine w_ret ?_
        exact hret _ _ _ (-1) _ hE hR (res_run hE rfl (RV.tmp rfl RV.nil)) rfl H
      · replace H:=M.ite_f hb H
        refine w_skip ?_
        refine hK_15 _ _ ?_
        refine w_seq (fun K hK_18=>?_)
        refine w_seq (fun K hK_19=>?_)
        refine t_region ?_
        refine t_val (v:=.int .i64 x0) rfl rfl hE rfl (r_move hE rfl) (fun a hE=>?_)
        refine t_val (v:=.int .i64 x1) rfl rfl hE rfl (r_move hE rfl) (fun a hE=>?_)
        refine t_val (v:=.bool (decide (x0 > x1))) rfl rfl hE rfl (r_bin hE rfl rfl g_int b_gtr) (fun a hE=>?_)
        refine t_nil ?_
        refine hK_19 _ _ ?_
        refine w_cond (decide (x0 > x1)) hE rfl (fun hb=>?_) (fun hb=>?_)
        · replace H:=M.ite_t hb H
          refine w_seq (fun K hK_20=>?_)
          refine t_region ?_
          refine t_val (v:=.int .i64 1) rfl rfl hE rfl (r_assign hE rfl) (fun a hE=>?_)
          refine t_nil ?_
          refine hK_20 _ _ ?_
          refine w_ret ?_
          exact hret _ _ _ 1 _ hE hR (res_run hE rfl (RV.tmp rfl RV.nil)) rfl H
        · replace H:=M.ite_f hb H
          refine w_skip ?_
          refine hK_18 _ _ ?_
          refine w_seq (fun K hK_21=>?_)
          refine t_region ?_
          refine t_val (v:=.int .i64 0) rfl rfl hE rfl (r_assign hE rfl) (fun a hE=>?_)
          refine t_nil ?_
          refine hK_21 _ _ ?_
          refine w_ret ?_
          exact hret _ _ _ 0 _ hE hR (res_run hE rfl (RV.tmp rfl RV.nil)) rfl H

def strings_Compare (x0 : ByteArray) (x1 : ByteArray) : M (Int):=do
  let x7_3 ← internal_bytealg_CompareString x0 x1
  M.pure x7_3
theorem S_strings_Compare (x0 : ByteArray) (x1 : ByteArray) : Sound Go.Proofs.Tryz.prog 72 #[.string x0,.string x1] (fun (r : Int)=>.int .i64 r) (strings_Compare x0 x1):=by
  refine sound_of [(0,.string x0),(1,.string x1)] Go.Proofs.Tryz.func72 rfl rfl (Nat.le_of_ble_eq_true rfl) (args_of ⟨rfl,rfl,trivial⟩) (fun w0 w Q R a hret hE hR H=>?_)
  unfold strings_Compare at H
  refine w_seq (fun K hK_1=>?_)
  refine t_region ?_
  refine t_val (v:=.int .i64 0) rfl rfl hE rfl (r_assign hE rfl) (fun a hE=>?_)
  refine t_nil ?_
  refine hK_1 _ _ ?_
  refine w_seq (fun K hK_2=>?_)
  refine t_region ?_
  refine t_val (v:=.string x0) rfl rfl hE rfl (r_move hE rfl) (fun a hE=>?_)
  refine t_val (v:=.string x1) rfl rfl hE rfl (r_move hE rfl) (fun a hE=>?_)
  refine t_call hE hR cl_internal_bytealg_CompareString rfl (S_internal_bytealg_CompareString x0 x1) (M.unbind H) (fun x7_3 a w ea hR H=>?_)
  have hE:=Env.put_some hE rfl ea; clear ea
  refine t_val (v:=.int .i64 x7_3) rfl rfl hE rfl (r_assign hE rfl) (fun a hE=>?_)
  refine t_nil ?_
  refine hK_2 _ _ ?_
  refine w_ret ?_
  exact hret _ _ _ x7_3 _ hE hR (res_run hE rfl (RV.tmp rfl RV.nil)) rfl H

def slices_CompareFunc_slapi_Value_slapi_Value_api_Value_api_Value_l1 (c0_5 : Sl) (c1_6 : Sl) (c2_7 : Value) (c11_8 : Sl) (c12_9 : Int) (self1 : (Int) → M (Int)) : (Int) → M (Int):=fun s=>match s with
  | x13_4=>do
    M.ite (decide (x13_4 < c12_9)) (do
      let x16_15 ← ixL c11_8 x13_4 4
      let x17_16 ← ldG 4 x16_15
      let x8_17 ← mkB ty_api_Value (#[.int .i64 0,.int .i64 0,.string ByteArray.empty,.slice none 0 0] : Array Value)
      M.need (x17_16.size = 4)
      stG x8_17 x17_16
      M.ite (decide (x13_4 ≥ (c1_6.len : Int))) (do
        M.pure 1
        ) (do
        let x24_23 ← ixL c1_6 x13_4 4
        let x25_24 ← ldG 4 x24_23
        let x9_25 ← mkB ty_api_Value (#[.int .i64 0,.int .i64 0,.string ByteArray.empty,.slice none 0 0] : Array Value)
        M.need (x25_24.size = 4)
        stG x9_25 x25_24
        let x27_28 ← ldG 4 x8_17
        let x28_29 ← ldG 4 x9_25
        let x29_30 ← callV Go.Proofs.Tryz.prog (fun r : Int=>.int .i64 r) c2_7 [.agg x27_28,.agg x28_29]
        M.ite (x29_30 != 0) (do
          M.pure x29_30
          ) (do
          self1 (IntKind.wrap .i64 (x13_4 + 1))
          )
        )
      ) (do
      M.ite (decide ((c0_5.len : Int) < (c1_6.len : Int))) (do
        M.pure (-1)
        ) (do
        M.pure 0
        )
      )
def slices_CompareFunc_slapi_Value_slapi_Value_api_Value_api_Value (x0 : Sl) (x1 : Sl) (x2 : Value) : M (Int):=do
  M.loop (slices_CompareFunc_slapi_Value_slapi_Value_api_Value_api_Value_l1 x0 x1 x2 x0 (x0.len : Int)) 0
theorem S_slices_CompareFunc_slapi_Value_slapi_Value_api_Value_api_Value (x0 : Sl) (x1 : Sl) (x2 : Value) : Sound Go.Proofs.Tryz.prog 73 #[(x0 : Sl).v,(x1 : Sl).v,x2] (fun (r : Int)=>.int .i64 r) (slices_CompareFunc_slapi_Value_slapi_Value_api_Value_api_Value x0 x1 x2):=by
  refine sound_of [(0,(x0 : Sl).v),(1,(x1 : Sl).v),(2,x2)] Go.Proofs.Tryz.func73 rfl rfl (Nat.le_of_ble_eq_true rfl) (args_of ⟨rfl,rfl,rfl,trivial⟩) (fun w0 w Q R a hret hE hR H=>?_)
  unfold slices_CompareFunc_slapi_Value_slapi_Value_api_Value_api_Value at H
  refine w_seq (fun K hK_1=>?_)
  refine t_region ?_
  refine t_val (v:=.int .i64 0) rfl rfl hE rfl (r_assign hE rfl) (fun a hE=>?_)
  refine t_nil ?_
  refine hK_1 _ _ ?_
  refine w_seq (fun K hK_2=>?_)
  refine w_seq (fun K hK_3=>?_)
  refine t_region ?_
  refine t_val (v:=(x0 : Sl).v) rfl rfl hE rfl (r_move hE rfl) (fun a hE=>?_)
  refine t_val (v:=.int .i64 (x0.len : Int)) rfl rfl hE rfl (r_len hE rfl 24 un22) (fun a hE=>?_)
  refine t_val (v:=.int .i64 0) rfl rfl hE rfl (r_move hE rfl) (fun a hE=>?_)
  refine t_nil ?_
  refine hK_3 _ _ ?_
  refine w_block ?_
  refine l_loop (fun (s : Int)=>(⟨39,[]⟩ : Frm)) (fun (s : Int)=>[(0,(x0 : Sl).v),(1,(x1 : Sl).v),(2,x2),(11,(x0 : Sl).v),(12,.int .i64 (x0.len : Int)),(13,.int .i64 s)]) H (hE.cut (.cons rfl (.cons rfl (.cons rfl (.cons rfl (.cons rfl (.cons rfl Subs.nil))))))) hR (fun Y self1 hY_10 x13_4 a w hE hR H=>?_)
  replace hE : Env (⟨39,[]⟩ : Frm) a [(0,(x0 : Sl).v),(1,(x1 : Sl).v),(2,x2),(11,(x0 : Sl).v),(12,.int .i64 (x0.len : Int)),(13,.int .i64 x13_4)]:=hE
  replace H : (slices_CompareFunc_slapi_Value_slapi_Value_api_Value_api_Value_l1 x0 x1 x2 x0 (x0.len : Int) self1 x13_4).wp w.heap Q:=H
  unfold slices_CompareFunc_slapi_Value_slapi_Value_api_Value_api_Value_l1 at H
  refine w_seq (fun K hK_11=>?_)
  refine t_region ?_
  refine t_val (v:=.bool (decide (x13_4 < (x0.len : Int)))) rfl rfl hE rfl (r_bin hE rfl rfl g_int b_lss) (fun a hE=>?_)
  refine t_nil ?_
  refine hK_11 _ _ ?_
  refine w_seq (fun K hK_12=>?_)
  refine w_cond (decide (x13_4 < (x0.len : Int))) hE rfl (fun hb=>?_) (fun hb=>?_)
  · replace H:=M.ite_t hb H
    refine w_skip ?_
    refine hK_12 _ _ ?_
    refine w_seq (fun K hK_13=>?_)
    refine w_block ?_
    refine w_seq (fun K hK_14=>?_)
    refine t_region ?_
    refine t_val (v:=.int .i64 x13_4) rfl rfl hE rfl (r_move hE rfl) (fun a hE=>?_)
    obtain ⟨x16_15,qx16_15,H⟩:=H
    refine t_val (v:=.pointer (some x16_15)) rfl rfl hE rfl (r_indexAddrL hE rfl rfl un22 sz24 qx16_15) (fun a hE=>?_)
    obtain ⟨x17_16,qx17_16,H⟩:=H
    refine t_val (v:=.agg x17_16) rfl rfl hE rfl (r_loadG hE rfl ag24 qx17_16) (fun a hE=>?_)
    obtain ⟨x8_17,qx8_17,H⟩:=H
    refine t_valh (v:=.pointer (some x8_17)) rfl rfl hE rfl hR (r_alloc zr24 qx8_17) (fun a w hE hR hh=>?_)
    replace H:=M.at hh H; clear hh
    refine t_val (v:=.int .i64 x13_4) rfl rfl hE rfl (r_assign hE rfl) (fun a hE=>?_)
    obtain ⟨qz,H⟩:=H
    obtain ⟨u_18,qu_18,H⟩:=H
    refine t_sth rfl rfl hE hR (r_storeG hE rfl rfl sz24 qz qu_18) (fun a w hE hR hh=>?_)
    replace H:=M.at hh H; clear hh
    refine t_nil ?_
    refine hK_14 _ _ ?_
    refine w_seq (fun K hK_19=>?_)
    refine w_seq (fun K hK_20=>?_)
    refine t_region ?_
    refine t_val (v:=.int .i64 x13_4) rfl rfl hE rfl (r_move hE rfl) (fun a hE=>?_)
    refine t_val (v:=(x1 : Sl).v) rfl rfl hE rfl (r_move hE rfl) (fun a hE=>?_)
    refine t_val (v:=.int .i64 (x1.len : Int)) rfl rfl hE rfl (r_len hE rfl 24 un22) (fun a hE=>?_)
    refine t_val (v:=.bool (decide (x13_4 ≥ (x1.len : Int)))) rfl rfl hE rfl (r_bin hE rfl rfl g_int b_geq) (fun a hE=>?_)
    refine t_nil ?_
    refine hK_20 _ _ ?_
    refine w_cond (decide (x13_4 ≥ (x1.len : Int))) hE rfl (fun hb=>?_) (fun hb=>?_)
    · replace H:=M.ite_t hb H
      refine w_seq (fun K hK_21=>?_)
      refine t_region ?_
      refine t_val (v:=.int .i64 1) rfl rfl hE rfl (r_assign hE rfl) (fun a hE=>?_)
      refine t_nil ?_
      refine hK_21 _ _ ?_
      refine w_ret ?_
      exact hret _ _ _ 1 _ hE hR (res_run hE rfl (RV.tmp rfl RV.nil)) rfl H
    · replace H:=M.ite_f hb H
      refine w_skip ?_
      refine hK_19 _ _ ?_
      refine w_seq (fun K hK_22=>?_)
      refine t_region ?_
      refine t_val (v:=(x1 : Sl).v) rfl rfl hE rfl (r_move hE rfl) (fun a hE=>?_)
      refine t_val (v:=.int .i64 x13_4) rfl rfl hE rfl (r_move hE rfl) (fun a hE=>?_)
      obtain ⟨x24_23,qx24_23,H⟩:=H
      refine t_val (v:=.pointer (some x24_23)) rfl rfl hE rfl (r_indexAddrL hE rfl rfl un22 sz24 qx24_23) (fun a hE=>?_)
      obtain ⟨x25_24,qx25_24,H⟩:=H
      refine t_val (v:=.agg x25_24) rfl rfl hE rfl (r_loadG hE rfl ag24 qx25_24) (fun a hE=>?_)
      obtain ⟨x9_25,qx9_25,H⟩:=H
      refine t_valh (v:=.pointer (some x9_25)) rfl rfl hE rfl hR (r_alloc zr24 qx9_25) (fun a w hE hR hh=>?_)
      replace H:=M.at hh H; clear hh
      obtain ⟨qz,H⟩:=H
      obtain ⟨u_26,qu_26,H⟩:=H
      refine t_sth rfl rfl hE hR (r_storeG hE rfl rfl sz24 qz qu_26) (fun a w hE hR hh=>?_)
      replace H:=M.at hh H; clear hh
      refine t_nil ?_
      refine hK_22 _ _ ?_
      refine w_seq (fun K hK_27=>?_)
      refine t_region ?_
      refine t_val (v:=x2) rfl rfl hE rfl (r_move hE rfl) (fun a hE=>?_)
      obtain ⟨x27_28,qx27_28,H⟩:=H
      refine t_val (v:=.agg x27_28) rfl rfl hE rfl (r_loadG hE rfl ag24 qx27_28) (fun a hE=>?_)
      obtain ⟨x28_29,qx28_29,H⟩:=H
      refine t_val (v:=.agg x28_29) rfl rfl hE rfl (r_loadG hE rfl ag24 qx28_29) (fun a hE=>?_)
      refine t_callV hE hR rfl rfl (M.unbind H) (fun x29_30 a w ea hR H=>?_)
      have hE:=Env.put_some hE rfl ea; clear ea
      refine t_val (v:=.int .i64 x29_30) rfl rfl hE rfl (r_assign hE rfl) (fun a hE=>?_)
      refine t_nil ?_
      refine hK_27 _ _ ?_
      refine w_seq (fun K hK_31=>?_)
      refine t_region ?_
      refine t_val (v:=.int .i64 x29_30) rfl rfl hE rfl (r_move hE rfl) (fun a hE=>?_)
      refine t_val (v:=.bool (x29_30 != 0)) rfl rfl hE rfl (r_bin hE rfl rfl g_int b_neq) (fun a hE=>?_)
      refine t_nil ?_
      refine hK_31 _ _ ?_
      refine w_cond (x29_30 != 0) hE rfl (fun hb=>?_) (fun hb=>?_)
      · replace H:=M.ite_t hb H
        refine w_seq (fun K hK_32=>?_)
        refine t_region ?_
        refine t_val (v:=.int .i64 x29_30) rfl rfl hE rfl (r_move hE rfl) (fun a hE=>?_)
        refine t_val (v:=.int .i64 x29_30) rfl rfl hE rfl (r_assign hE rfl) (fun a hE=>?_)
        refine t_nil ?_
        refine hK_32 _ _ ?_
        refine w_ret ?_
        exact hret _ _ _ x29_30 _ hE hR (res_run hE rfl (RV.tmp rfl RV.nil)) rfl H
      · replace H:=M.ite_f hb H
        refine w_skip ?_
        refine hK_13 _ _ ?_
        refine t_region ?_
        refine t_val (v:=.int .i64 (IntKind.wrap .i64 (x13_4 + 1))) rfl rfl hE rfl (r_bin hE rfl rfl g_int b_add) (fun a hE=>?_)
        refine t_val (v:=.int .i64 (IntKind.wrap .i64 (x13_4 + 1))) rfl rfl hE rfl (r_move hE rfl) (fun a hE=>?_)
        refine t_nil ?_
        exact hY_10 (IntKind.wrap .i64 (x13_4 + 1)) _ _ (hE.cut (.cons rfl (.cons rfl (.cons rfl (.cons rfl (.cons rfl (.cons rfl Subs.nil))))))) hR H
  · replace H:=M.ite_f hb H
    refine w_exit ?_
    refine Xu.same ?_
    refine hK_2 _ _ ?_
    refine w_seq (fun K hK_33=>?_)
    refine w_seq (fun K hK_34=>?_)
    refine t_region ?_
    refine t_val (v:=(x0 : Sl).v) rfl rfl hE rfl (r_move hE rfl) (fun a hE=>?_)
    refine t_val (v:=.int .i64 (x0.len : Int)) rfl rfl hE rfl (r_len hE rfl 24 un22) (fun a hE=>?_)
    refine t_val (v:=(x1 : Sl).v) rfl rfl hE rfl (r_move hE rfl) (fun a hE=>?_)
    refine t_val (v:=.int .i64 (x1.len : Int)) rfl rfl hE rfl (r_len hE rfl 24 un22) (fun a hE=>?_)
    refine t_val (v:=.bool (decide ((x0.len : Int) < (x1.len : Int)))) rfl rfl hE rfl (r_bin hE rfl rfl g_int b_lss) (fun a hE=>?_)
    refine t_nil ?_
    refine hK_34 _ _ ?_
    refine w_cond (decide ((x0.len : Int) < (x1.len : Int))) hE rfl (fun hb=>?_) (fun hb=>?_)
    · replace H:=M.ite_t hb H
      refine w_seq (fun K hK_35=>?_)
      refine t_region ?_
      refine t_val (v:=.int .i64 (-1)) rfl rfl hE rfl (r_assign hE rfl) (fun a hE=>?_)
      refine t_nil ?_
      refine hK_35 _ _ ?_
      refine w_ret ?_
      exact hret _ _ _ (-1) _ hE hR (res_run hE rfl (RV.tmp rfl RV.nil)) rfl H
    · replace H:=M.ite_f hb H
      refine w_skip ?_
      refine hK_33 _ _ ?_
      refine w_seq (fun K hK_36=>?_)
      refine t_region ?_
      refine t_val (v:=.int .i64 0) rfl rfl hE rfl (r_assign hE rfl) (fun a hE=>?_)
      refine t_nil ?_
      refine hK_36 _ _ ?_
      refine w_ret ?_
      exact hret _ _ _ 0 _ hE hR (res_run hE rfl (RV.tmp rfl RV.nil)) rfl H

noncomputable def ro13_1 : Array Oper:=opsOf Go.Proofs.Tryz.f13 1
def tE13_1 : List (List Nat):=[[],[0],[],[2],[1,3],[],[5],[],[7],[6,8,4],[],[10],[],[12],[11,13,9],[],[15],[],[17],[16,18,14],[4,9,14,19],[20,19],[21,21,0,1,2,3,4,5,6,7,8,9,10,11,12,13,14,15,16,17,18,19,20,21]]
def tC13_1 : List (List Nat):=[[],[0],[],[2],[1,3],[],[5],[],[7],[6,8],[],[10],[],[12],[11,13],[],[15],[],[17],[16,18],[4,9,14,19],[20],[21]]
def tW13_1 : List (List Nat):=[[],[0],[],[2],[0,1,2,3],[],[5],[],[7],[0,1,2,3,4,5,6,7,8],[],[10],[],[12],[0,1,2,3,4,5,6,7,8,9,10,11,12,13],[],[15],[],[17],[0,1,2,3,4,5,6,7,8,9,10,11,12,13,14,15,16,17,18],[0,1,2,3,4,5,6,7,8,9,10,11,12,13,14,15,16,17,18,19],[0,1,2,3,4,5,6,7,8,9,10,11,12,13,14,15,16,17,18,19,20],[0,1,2,3,4,5,6,7,8,9,10,11,12,13,14,15,16,17,18,19,20,21]]
theorem tb13_1 : tabAt Go.Proofs.Tryz.f13 1 tE13_1 tC13_1 tW13_1 = true:=by kernel_rfl
theorem tb13_1m : tabMB 23 tE13_1 tC13_1 tW13_1 [0,1,0,4,10,0,32,0,128,336,0,1024,0,4096,10752,0,32768,0,131072,344064,541200,1572864,4194303] [0,1,0,4,10,0,32,0,128,320,0,1024,0,4096,10240,0,32768,0,131072,327680,541200,1048576,2097152] [0,1,0,4,15,0,32,0,128,511,0,1024,0,4096,16383,0,32768,0,131072,524287,1048575,2097151,4194303] = true:=by kernel_rfl
def value_Compare (x0 : Array Value) (x1 : Array Value) : M (Int):=do
  let x2_2 ← mkB ty_api_Value x0
  let x3_3 ← mkB ty_api_Value x1
  let x6_5 ← ldI .i64 ((x2_2).add 0)
  let x8_6 ← ldI .i64 ((x3_3).add 0)
  let x11_7 ← ldI .i64 ((x2_2).add 1)
  let x13_8 ← ldI .i64 ((x3_3).add 1)
  let x16_9 ← ldS ((x2_2).add 2)
  let x18_10 ← ldS ((x3_3).add 2)
  let x21_11 ← ldL ((x2_2).add 3)
  let x23_12 ← ldL ((x3_3).add 3)
  let x9_13 ← cmp_Compare_int x6_5 x8_6
  chk (fun h : Heap=>(hcell h ((x2_2).add 0) = some (.int .i64 x6_5)) ∧ (hcell h ((x3_3).add 0) = some (.int .i64 x8_6)) ∧ (hcell h ((x2_2).add 1) = some (.int .i64 x11_7)) ∧ (hcell h ((x3_3).add 1) = some (.int .i64 x13_8)) ∧ (hcell h ((x2_2).add 2) = some (.string x16_9)) ∧ (hcell h ((x3_3).add 2) = some (.string x18_10)) ∧ (hcell h ((x2_2).add 3) = some ((x21_11 : Sl).v)) ∧ (hcell h ((x3_3).add 3) = some ((x23_12 : Sl).v)))
  let x14_14 ← cmp_Compare_int64 x11_7 x13_8
  chk (fun h : Heap=>(hcell h ((x2_2).add 0) = some (.int .i64 x6_5)) ∧ (hcell h ((x3_3).add 0) = some (.int .i64 x8_6)) ∧ (hcell h ((x2_2).add 1) = some (.int .i64 x11_7)) ∧ (hcell h ((x3_3).add 1) = some (.int .i64 x13_8)) ∧ (hcell h ((x2_2).add 2) = some (.string x16_9)) ∧ (hcell h ((x3_3).add 2) = some (.string x18_10)) ∧ (hcell h ((x2_2).add 3) = some ((x21_11 : Sl).v)) ∧ (hcell h ((x3_3).add 3) = some ((x23_12 : Sl).v)))
  let x19_15 ← strings_Compare x16_9 x18_10
  chk (fun h : Heap=>(hcell h ((x2_2).add 0) = some (.int .i64 x6_5)) ∧ (hcell h ((x3_3).add 0) = some (.int .i64 x8_6)) ∧ (hcell h ((x2_2).add 1) = some (.int .i64 x11_7)) ∧ (hcell h ((x3_3).add 1) = some (.int .i64 x13_8)) ∧ (hcell h ((x2_2).add 2) = some (.string x16_9)) ∧ (hcell h ((x3_3).add 2) = some (.string x18_10)) ∧ (hcell h ((x2_2).add 3) = some ((x21_11 : Sl).v)) ∧ (hcell h ((x3_3).add 3) = some ((x23_12 : Sl).v)))
  let x24_16 ← slices_CompareFunc_slapi_Value_slapi_Value_api_Value_api_Value x21_11 x23_12 (Value.func (.func fn_value_Compare) #[] #[])
  let x25_17 ← bdL ty_int 4 #[.int .i64 x9_13,.int .i64 x14_14,.int .i64 x19_15,.int .i64 x24_16]
  let x26_18 ← cmp_Or_int x25_17
  M.pure x26_18
theorem S_value_Compare (x0 : Array Value) (x1 : Array Value) : Sound Go.Proofs.Tryz.prog 13 #[.agg x0,.agg x1] (fun (r : Int)=>.int .i64 r) (value_Compare x0 x1):=by
  refine sound_of [(0,.agg x0),(1,.agg x1)] Go.Proofs.Tryz.func13 rfl rfl (Nat.le_of_ble_eq_true rfl) (args_of ⟨rfl,rfl,trivial⟩) (fun w0 w Q R a hret hE hR H=>?_)
  unfold value_Compare at H
  refine w_seq (fun K hK_1=>?_)
  refine t_region ?_
  obtain ⟨x2_2,qx2_2,H⟩:=H
  refine t_valh (v:=.pointer (some x2_2)) rfl rfl hE rfl hR (r_box hE rfl qx2_2) (fun a w hE hR hh=>?_)
  replace H:=M.at hh H; clear hh
  obtain ⟨x3_3,qx3_3,H⟩:=H
  refine t_valh (v:=.pointer (some x3_3)) rfl rfl hE rfl hR (r_box hE rfl qx3_3) (fun a w hE hR hh=>?_)
  replace H:=M.at hh H; clear hh
  refine t_val (v:=.int .i64 0) rfl rfl hE rfl (r_assign hE rfl) (fun a hE=>?_)
  refine t_nil ?_
  refine hK_1 _ _ ?_
  refine w_seq (fun K hK_4=>?_)
  obtain ⟨x6_5,qx6_5,H⟩:=H
  obtain ⟨x8_6,qx8_6,H⟩:=H
  obtain ⟨x11_7,qx11_7,H⟩:=H
  obtain ⟨x13_8,qx13_8,H⟩:=H
  obtain ⟨x16_9,qx16_9,H⟩:=H
  obtain ⟨x18_10,qx18_10,H⟩:=H
  obtain ⟨x21_11,qx21_11,H⟩:=H
  obtain ⟨x23_12,qx23_12,H⟩:=H
  refine reg_eq (rops:=ro13_1) (by kernel_rfl) ?_
  have hT : Tab ro13_1 _ _ _:=tab_of tb13_1 rfl (by kernel_rfl)
  have hM:=TabM.of tb13_1m
  refine d_start (m:=23) (fun w : World=>(fun h : Heap=>(hcell h ((x2_2).add 0) = some (.int .i64 x6_5)) ∧ (hcell h ((x3_3).add 0) = some (.int .i64 x8_6)) ∧ (hcell h ((x2_2).add 1) = some (.int .i64 x11_7)) ∧ (hcell h ((x3_3).add 1) = some (.int .i64 x13_8)) ∧ (hcell h ((x2_2).add 2) = some (.string x16_9)) ∧ (hcell h ((x3_3).add 2) = some (.string x18_10)) ∧ (hcell h ((x2_2).add 3) = some ((x21_11 : Sl).v)) ∧ (hcell h ((x3_3).add 3) = some ((x23_12 : Sl).v))) w.heap) [19,20,21,22] (unb 23 0) mo hR (by kernel_rfl) (by kernel_rfl) (fun w' e=>by rw [e]; exact ⟨qx6_5,qx8_6,qx11_7,qx13_8,qx16_9,qx18_10,qx21_11,qx23_12⟩) (fun w hh hR hs=>?_)
  replace H:=M.at hh H; clear hh
  refine d_pureg (i:=0) (v:=.pointer (some ((x2_2).add 0))) (unb 23 1) rfl rfl hT (anyM hM (by kernel_rfl)) hE rfl (wanted_none rfl) (fun w=>r_fieldAddr hE rfl fd24_0) (fun a hE=>?_)
  refine d_pureg (i:=2) (v:=.pointer (some ((x3_3).add 0))) (unb 23 5) rfl rfl hT (anyM hM (by kernel_rfl)) hE rfl (wanted_none rfl) (fun w=>r_fieldAddr hE rfl fd24_0) (fun a hE=>?_)
  refine d_pureg (i:=5) (v:=.pointer (some ((x2_2).add 1))) (unb 23 37) rfl rfl hT (anyM hM (by kernel_rfl)) hE rfl (wanted_none rfl) (fun w=>r_fieldAddr hE rfl fd24_1) (fun a hE=>?_)
  refine d_pureg (i:=7) (v:=.pointer (some ((x3_3).add 1))) (unb 23 165) rfl rfl hT (anyM hM (by kernel_rfl)) hE rfl (wanted_none rfl) (fun w=>r_fieldAddr hE rfl fd24_1) (fun a hE=>?_)
  refine d_pureg (i:=10) (v:=.pointer (some ((x2_2).add 2))) (unb 23 1189) rfl rfl hT (anyM hM (by kernel_rfl)) hE rfl (wanted_none rfl) (fun w=>r_fieldAddr hE rfl fd24_2) (fun a hE=>?_)
  refine d_pureg (i:=12) (v:=.pointer (some ((x3_3).add 2))) (unb 23 5285) rfl rfl hT (anyM hM (by kernel_rfl)) hE rfl (wanted_none rfl) (fun w=>r_fieldAddr hE rfl fd24_2) (fun a hE=>?_)
  refine d_pureg (i:=15) (v:=.pointer (some ((x2_2).add 3))) (unb 23 38053) rfl rfl hT (anyM hM (by kernel_rfl)) hE rfl (wanted_none rfl) (fun w=>r_fieldAddr hE rfl fd24_3) (fun a hE=>?_)
  refine d_pureg (i:=17) (v:=.pointer (some ((x3_3).add 3))) (unb 23 169125) rfl rfl hT (anyM hM (by kernel_rfl)) hE rfl (wanted_none rfl) (fun w=>r_fieldAddr hE rfl fd24_3) (fun a hE=>?_)
  refine d_read (i:=1) (v:=.int .i64 x6_5) (unb 23 169127) rfl rfl hT (takeM hM (by kernel_rfl)) hE rfl (wanted_none rfl) hs (fun w s=>r_load hE rfl sc3 s.1) (fun a hE=>?_)
  refine d_read (i:=3) (v:=.int .i64 x8_6) (unb 23 169135) rfl rfl hT (takeM hM (by kernel_rfl)) hE rfl (wanted_none rfl) hs (fun w s=>r_load hE rfl sc3 s.2.1) (fun a hE=>?_)
  refine d_read (i:=6) (v:=.int .i64 x11_7) (unb 23 169199) rfl rfl hT (takeM hM (by kernel_rfl)) hE rfl (wanted_none rfl) hs (fun w s=>r_load hE rfl sc2 s.2.2.1) (fun a hE=>?_)
  refine d_read (i:=8) (v:=.int .i64 x13_8) (unb 23 169455) rfl rfl hT (takeM hM (by kernel_rfl)) hE rfl (wanted_none rfl) hs (fun w s=>r_load hE rfl sc2 s.2.2.2.1) (fun a hE=>?_)
  refine d_read (i:=11) (v:=.string x16_9) (unb 23 171503) rfl rfl hT (takeM hM (by kernel_rfl)) hE rfl (wanted_none rfl) hs (fun w s=>r_load hE rfl sc9 s.2.2.2.2.1) (fun a hE=>?_)
  refine d_read (i:=13) (v:=.string x18_10) (unb 23 179695) rfl rfl hT (takeM hM (by kernel_rfl)) hE rfl (wanted_none rfl) hs (fun w s=>r_load hE rfl sc9 s.2.2.2.2.2.1) (fun a hE=>?_)
  refine d_read (i:=16) (v:=(x21_11 : Sl).v) (unb 23 245231) rfl rfl hT (takeM hM (by kernel_rfl)) hE rfl (wanted_none rfl) hs (fun w s=>r_load hE rfl sc22 s.2.2.2.2.2.2.1) (fun a hE=>?_)
  refine d_read (i:=18) (v:=(x23_12 : Sl).v) (unb 23 507375) rfl rfl hT (takeM hM (by kernel_rfl)) hE rfl (wanted_none rfl) hs (fun w s=>r_load hE rfl sc22 s.2.2.2.2.2.2.2) (fun a hE=>?_)
  refine d_call (i:=4) (unb 23 507391) rfl rfl rfl hT (oneM hM (by kernel_rfl)) rfl hE hR (wanted_none rfl) cl_cmp_Compare_int rfl (S_cmp_Compare_int x6_5 x8_6) (M.unbind H) (fun r h H w' e=>by obtain ⟨_,sA,H⟩:=H; rw [e]; exact sA) (fun x9_13 a w ea hR H hs=>?_)
  obtain ⟨_,sA,H⟩:=H; clear sA
  have hE:=Env.put_some hE rfl ea; clear ea
  refine d_call (i:=9) (unb 23 507903) rfl rfl rfl hT (oneM hM (by kernel_rfl)) rfl hE hR (wanted_none rfl) cl_cmp_Compare_int64 rfl (S_cmp_Compare_int64 x11_7 x13_8) (M.unbind H) (fun r h H w' e=>by obtain ⟨_,sA,H⟩:=H; rw [e]; exact sA) (fun x14_14 a w ea hR H hs=>?_)
  obtain ⟨_,sA,H⟩:=H; clear sA
  have hE:=Env.put_some hE rfl ea; clear ea
  refine d_call (i:=14) (unb 23 524287) rfl rfl rfl hT (oneM hM (by kernel_rfl)) rfl hE hR (wanted_none rfl) cl_strings_Compare rfl (S_strings_Compare x16_9 x18_10) (M.unbind H) (fun r h H w' e=>by obtain ⟨_,sA,H⟩:=H; rw [e]; exact sA) (fun x19_15 a w ea hR H hs=>?_)
  obtain ⟨_,sA,H⟩:=H; clear sA
  have hE:=Env.put_some hE rfl ea; clear ea
  refine d_calll (i:=19) (unb 23 1048575) rfl rfl rfl hT (oneM hM (by kernel_rfl)) rfl hE hR (wanted_none rfl) cl_slices_CompareFunc_slapi_Value_slapi_Value_api_Value_api_Value rfl (S_slices_CompareFunc_slapi_Value_slapi_Value_api_Value_api_Value x21_11 x23_12 (Value.func (.func fn_value_Compare) #[] #[])) (M.unbind H) (fun x24_16 a w ea hR H=>?_)
  have hE:=Env.put_some hE rfl ea; clear ea
  obtain ⟨x25_17,qx25_17,H⟩:=H
  refine d_lasth (i:=20) (v:=(x25_17 : Sl).v) (unb 23 2097151) rfl rfl hT (oneM hM (by kernel_rfl)) rfl hE hR rfl (wanted_none rfl) (r_buildL (cells:=#[.int .i64 x9_13,.int .i64 x14_14,.int .i64 x19_15,.int .i64 x24_16]) hE rfl un136 sz3 zr3 rfl rfl qx25_17)  (fun a w hE hR hh=>?_)
  replace H:=M.at hh H; clear hh
  refine d_calll (i:=21) (unb 23 4194303) rfl rfl rfl hT (oneM hM (by kernel_rfl)) rfl hE hR (wanted_none rfl) cl_cmp_Or_int rfl (S_cmp_Or_int x25_17) (M.unbind H) (fun x26_18 a w ea hR H=>?_)
  have hE:=Env.put_some hE rfl ea; clear ea
  refine d_pureg (i:=22) (v:=.int .i64 x26_18) (unb 23 8388607) rfl rfl hT (anyM hM (by kernel_rfl)) hE rfl (wanted_none rfl) (fun w=>r_assign hE rfl) (fun a hE=>?_)
  refine d_done hT (doneM hM (by kernel_rfl)) ?_
  refine hK_4 _ _ ?_
  refine w_ret ?_
  exact hret _ _ _ x26_18 _ hE hR (res_run hE rfl (RV.tmp rfl RV.nil)) rfl H

def slices_IndexFunc_slapi_Value_api_Value_l1 (c0_5 : Sl) (c1_6 : Value) (c7_7 : Int) (self1 : (Int) → M (Int)) : (Int) → M (Int):=fun s=>match s with
  | x8_4=>do
    M.ite (decide (x8_4 < c7_7)) (do
      let x14_14 ← ixL c0_5 x8_4 4
      let x15_15 ← ldG 4 x14_14
      let x16_16 ← callV Go.Proofs.Tryz.prog (fun r : Bool=>.bool r) c1_6 [.agg x15_15]
      M.ite x16_16 (do
        M.pure x8_4
        ) (do
        self1 (IntKind.wrap .i64 (x8_4 + 1))
        )
      ) (do
      M.pure (-1)
      )
def slices_IndexFunc_slapi_Value_api_Value (x0 : Sl) (x1 : Value) : M (Int):=do
  M.loop (slices_IndexFunc_slapi_Value_api_Value_l1 x0 x1 (x0.len : Int)) 0
theorem S_slices_IndexFunc_slapi_Value_api_Value (x0 : Sl) (x1 : Value) : Sound Go.Proofs.Tryz.prog 169 #[(x0 : Sl).v,x1] (fun (r : Int)=>.int .i64 r) (slices_IndexFunc_slapi_Value_api_Value x0 x1):=by
  refine sound_of [(0,(x0 : Sl).v),(1,x1)] Go.Proofs.Tryz.func169 rfl rfl (Nat.le_of_ble_eq_true rfl) (args_of ⟨rfl,rfl,trivial⟩) (fun w0 w Q R a hret hE hR H=>?_)
  unfold slices_IndexFunc_slapi_Value_api_Value at H
  refine w_seq (fun K hK_1=>?_)
  refine t_region ?_
  refine t_val (v:=.int .i64 0) rfl rfl hE rfl (r_assign hE rfl) (fun a hE=>?_)
  refine t_nil ?_
  refine hK_1 _ _ ?_
  refine w_seq (fun K hK_2=>?_)
  refine w_seq (fun K hK_3=>?_)
  refine t_region ?_
  refine t_val (v:=(x0 : Sl).v) rfl rfl hE rfl (r_move hE rfl) (fun a hE=>?_)
  refine t_val (v:=.int .i64 (x0.len : Int)) rfl rfl hE rfl (r_len hE rfl 24 un22) (fun a hE=>?_)
  refine t_val (v:=.int .i64 0) rfl rfl hE rfl (r_move hE rfl) (fun a hE=>?_)
  refine t_nil ?_
  refine hK_3 _ _ ?_
  refine w_block ?_
  refine l_loop (fun (s : Int)=>(⟨19,[]⟩ : Frm)) (fun (s : Int)=>[(0,(x0 : Sl).v),(1,x1),(7,.int .i64 (x0.len : Int)),(8,.int .i64 s)]) H (hE.cut (.cons rfl (.cons rfl (.cons rfl (.cons rfl Subs.nil))))) hR (fun Y self1 hY_8 x8_4 a w hE hR H=>?_)
  replace hE : Env (⟨19,[]⟩ : Frm) a [(0,(x0 : Sl).v),(1,x1),(7,.int .i64 (x0.len : Int)),(8,.int .i64 x8_4)]:=hE
  replace H : (slices_IndexFunc_slapi_Value_api_Value_l1 x0 x1 (x0.len : Int) self1 x8_4).wp w.heap Q:=H
  unfold slices_IndexFunc_slapi_Value_api_Value_l1 at H
  refine w_seq (fun K hK_9=>?_)
  refine t_region ?_
  refine t_val (v:=.bool (decide (x8_4 < (x0.len : Int)))) rfl rfl hE rfl (r_bin hE rfl rfl g_int b_lss) (fun a hE=>?_)
  refine t_nil ?_
  refine hK_9 _ _ ?_
  refine w_seq (fun K hK_10=>?_)
  refine w_cond (decide (x8_4 < (x0.len : Int))) hE rfl (fun hb=>?_) (fun hb=>?_)
  · replace H:=M.ite_t hb H
    refine w_skip ?_
    refine hK_10 _ _ ?_
    refine w_seq (fun K hK_11=>?_)
    refine w_block ?_
    refine w_seq (fun K hK_12=>?_)
    refine t_region ?_
    refine t_val (v:=.int .i64 x8_4) rfl rfl hE rfl (r_move hE rfl) (fun a hE=>?_)
    refine t_val (v:=.int .i64 x8_4) rfl rfl hE rfl (r_assign hE rfl) (fun a hE=>?_)
    refine t_nil ?_
    refine hK_12 _ _ ?_
    refine w_seq (fun K hK_13=>?_)
    refine t_region ?_
    refine t_val (v:=x1) rfl rfl hE rfl (r_move hE rfl) (fun a hE=>?_)
    refine t_val (v:=(x0 : Sl).v) rfl rfl hE rfl (r_move hE rfl) (fun a hE=>?_)
    refine t_val (v:=.int .i64 x8_4) rfl rfl hE rfl (r_move hE rfl) (fun a hE=>?_)
    obtain ⟨x14_14,qx14_14,H⟩:=H
    refine t_val (v:=.pointer (some x14_14)) rfl rfl hE rfl (r_indexAddrL hE rfl rfl un22 sz24 qx14_14) (fun a hE=>?_)
    obtain ⟨x15_15,qx15_15,H⟩:=H
    refine t_val (v:=.agg x15_15) rfl rfl hE rfl (r_loadG hE rfl ag24 qx15_15) (fun a hE=>?_)
    refine t_callV hE hR rfl rfl (M.unbind H) (fun x16_16 a w ea hR H=>?_)
    have hE:=Env.put_some hE rfl ea; clear ea
    refine t_nil ?_
    refine hK_13 _ _ ?_
    refine w_cond x16_16 hE rfl (fun hb=>?_) (fun hb=>?_)
    · replace H:=M.ite_t hb H
      refine w_seq (fun K hK_17=>?_)
      refine t_region ?_
      refine t_val (v:=.int .i64 x8_4) rfl rfl hE rfl (r_move hE rfl) (fun a hE=>?_)
      refine t_val (v:=.int .i64 x8_4) rfl rfl hE rfl (r_assign hE rfl) (fun a hE=>?_)
      refine t_nil ?_
      refine hK_17 _ _ ?_
      refine w_ret ?_
      exact hret _ _ _ x8_4 _ hE hR (res_run hE rfl (RV.tmp rfl RV.nil)) rfl H
    · replace H:=M.ite_f hb H
      refine w_skip ?_
      refine hK_11 _ _ ?_
      refine t_region ?_
      refine t_val (v:=.int .i64 (IntKind.wrap .i64 (x8_4 + 1))) rfl rfl hE rfl (r_bin hE rfl rfl g_int b_add) (fun a hE=>?_)
      refine t_val (v:=.int .i64 (IntKind.wrap .i64 (x8_4 + 1))) rfl rfl hE rfl (r_move hE rfl) (fun a hE=>?_)
      refine t_nil ?_
      exact hY_8 (IntKind.wrap .i64 (x8_4 + 1)) _ _ (hE.cut (.cons rfl (.cons rfl (.cons rfl (.cons rfl Subs.nil))))) hR H
  · replace H:=M.ite_f hb H
    refine w_exit ?_
    refine Xu.same ?_
    refine hK_2 _ _ ?_
    refine w_seq (fun K hK_18=>?_)
    refine t_region ?_
    refine t_val (v:=.int .i64 (-1)) rfl rfl hE rfl (r_assign hE rfl) (fun a hE=>?_)
    refine t_nil ?_
    refine hK_18 _ _ ?_
    refine w_ret ?_
    exact hret _ _ _ (-1) _ hE hR (res_run hE rfl (RV.tmp rfl RV.nil)) rfl H

def slices_ContainsFunc_slapi_Value_api_Value (x0 : Sl) (x1 : Value) : M (Bool):=do
  let x7_3 ← slices_IndexFunc_slapi_Value_api_Value x0 x1
  M.pure (decide (x7_3 ≥ 0))
theorem S_slices_ContainsFunc_slapi_Value_api_Value (x0 : Sl) (x1 : Value) : Sound Go.Proofs.Tryz.prog 128 #[(x0 : Sl).v,x1] (fun (r : Bool)=>.bool r) (slices_ContainsFunc_slapi_Value_api_Value x0 x1):=by
  refine sound_of [(0,(x0 : Sl).v),(1,x1)] Go.Proofs.Tryz.func128 rfl rfl (Nat.le_of_ble_eq_true rfl) (args_of ⟨rfl,rfl,trivial⟩) (fun w0 w Q R a hret hE hR H=>?_)
  unfold slices_ContainsFunc_slapi_Value_api_Value at H
  refine w_seq (fun K hK_1=>?_)
  refine t_region ?_
  refine t_val (v:=.bool false) rfl rfl hE rfl (r_assign hE rfl) (fun a hE=>?_)
  refine t_nil ?_
  refine hK_1 _ _ ?_
  refine w_seq (fun K hK_2=>?_)
  refine t_region ?_
  refine t_val (v:=(x0 : Sl).v) rfl rfl hE rfl (r_move hE rfl) (fun a hE=>?_)
  refine t_val (v:=x1) rfl rfl hE rfl (r_move hE rfl) (fun a hE=>?_)
  refine t_call hE hR cl_slices_IndexFunc_slapi_Value_api_Value rfl (S_slices_IndexFunc_slapi_Value_api_Value x0 x1) (M.unbind H) (fun x7_3 a w ea hR H=>?_)
  have hE:=Env.put_some hE rfl ea; clear ea
  refine t_val (v:=.bool (decide (x7_3 ≥ 0))) rfl rfl hE rfl (r_bin hE rfl rfl g_int b_geq) (fun a hE=>?_)
  refine t_val (v:=.bool (decide (x7_3 ≥ 0))) rfl rfl hE rfl (r_assign hE rfl) (fun a hE=>?_)
  refine t_nil ?_
  refine hK_2 _ _ ?_
  refine w_ret ?_
  exact hret _ _ _ (decide (x7_3 ≥ 0)) _ hE hR (res_run hE rfl (RV.tmp rfl RV.nil)) rfl H

end Gx
namespace Gx
open Go
set_option linter.unusedVariables false
set_option maxRecDepth 100000
def value_may_j1 (c2_12 : Addr) (c3_13 : Addr) : M (Bool):=do
  let x107_15 ← ldI .i64 ((c2_12).add 1)
  let x113_16 ← M.ite (x107_15 == 0) (do
    let x111_17 ← ldS ((c2_12).add 2)
    M.pure (sEq x111_17 ByteArray.empty)
    ) (do
    M.pure false
    )
  let x120_18 ← M.ite x113_16 (do
    let x116_19 ← ldL ((c2_12).add 3)
    let x118_20 ← slices_ContainsFunc_slapi_Value_api_Value x116_19 (Value.func (.func fn_value_may_1) #[] #[.pointer (some c3_13)])
    M.pure (!x118_20)
    ) (do
    M.pure false
    )
  M.pure x120_18
theorem tb74_24 : tabAt Go.Proofs.Tryz.f74 24 [[],[0],[],[2],[1,3],[4],[],[6],[],[7,8],[9],[5,10],[11]] [[],[0],[],[2],[1,3],[4],[],[6],[],[7,8],[9],[5,10],[11]] [[],[0],[],[2],[0,1,2,3],[0,1,2,3,4],[],[6],[],[6,7,8],[6,7,8,9],[0,1,2,3,4,5,6,7,8,9,10],[0,1,2,3,4,5,6,7,8,9,10,11]] = true:=by kernel_rfl
def value_may_l1 (c2_61 : Addr) (c3_62 : Addr) (self1 : (Int) → M (Bool)) : (Int) → M (Bool):=fun s=>match s with
  | x6_60=>do
    let x88_66 ← ldL ((c2_61).add 3)
    M.ite (decide (x6_60 < (x88_66.len : Int))) (do
      let x94_69 ← ldL ((c2_61).add 3)
      let x97_70 ← ixL x94_69 (IntKind.wrap .i64 (x6_60 - 2)) 4
      let x98_71 ← ldG 4 x97_70
      let x100_72 ← ldL ((c2_61).add 3)
      let x102_73 ← ixL x100_72 x6_60 4
      let x103_74 ← ldG 4 x102_73
      let x104_75 ← value_Compare x98_71 x103_74
      M.ite (decide (x104_75 ≥ 0)) (do
        M.pure false
        ) (do
        self1 (IntKind.wrap .i64 (x6_60 + 2))
        )
      ) (do
      value_may_j1 c2_61 c3_62
      )
def value_may_j2 (c2_32 : Addr) (c3_33 : Addr) (c5_34 : Bool) (c19_35 : Int) (x36_31 : Bool) : M (Bool):=do
  M.ite x36_31 (do
    let x44_37 ← M.ite c5_34 (do
      let x42_38 ← ldI .i64 ((c2_32).add 1)
      M.pure (decide (x42_38 ≥ 1))
      ) (do
      M.pure false
      )
    let x49_39 ← M.ite x44_37 (do
      let x47_40 ← ldI .i64 ((c2_32).add 1)
      M.pure (decide (x47_40 ≤ 281474976710656))
      ) (do
      M.pure false
      )
    M.pure x49_39
    ) (do
    M.ite (c19_35 == 2) (do
      let x53_43 ← ldI .i64 ((c2_32).add 1)
      let x60_44 ← M.ite (x53_43 == 0) (do
        let x57_45 ← ldL ((c2_32).add 3)
        M.pure ((x57_45.len : Int) == 0)
        ) (do
        M.pure false
        )
      let x66_46 ← M.ite x60_44 (do
        let x63_47 ← ldS ((c2_32).add 2)
        M.pure (decide ((x63_47.size : Int) ≤ 128))
        ) (do
        M.pure false
        )
      M.pure x66_46
      ) (do
      M.ite (c19_35 == 4) (do
        let x70_50 ← ldL ((c2_32).add 3)
        M.ite (decide ((x70_50.len : Int) > 256)) (do
          M.pure false
          ) (do
          value_may_j1 c2_32 c3_33
          )
        ) (do
        M.ite (c19_35 == 5) (do
          let x76_55 ← ldL ((c2_32).add 3)
          let x85_56 ← M.ite (decide ((x76_55.len : Int) > 512)) (do
            M.pure true
            ) (do
            let x81_57 ← ldL ((c2_32).add 3)
            M.pure ((Int.tmod (x81_57.len : Int) 2) == 1)
            )
          M.ite x85_56 (do
            M.pure false
            ) (do
            M.loop (value_may_l1 c2_32 c3_33) 2
            )
          ) (do
          M.pure false
          )
        )
      )
    )
def value_may (x0 : Array Value) (x1 : Int) : M (Bool):=do
  let x2_2 ← mkB ty_api_Value x0
  let x3_3 ← mkB ty_int #[.int .i64 x1]
  let x7_6 ← ldI .i64 x3_3
  M.ite (decide (x7_6 > 8)) (do
    M.pure false
    ) (do
    let x10_9 ← ldS ((x2_2).add 2)
    let x17_10 ← M.ite (sEq x10_9 ByteArray.empty) (do
      let x14_11 ← ldL ((x2_2).add 3)
      M.pure ((x14_11.len : Int) == 0)
      ) (do
      M.pure false
      )
    let x19_22 ← ldI .i64 ((x2_2).add 0)
    M.ite (x19_22 == 1) (do
      M.pure x17_10
      ) (do
      M.ite (x19_22 == 3) (do
        let x35_27 ← M.ite x17_10 (do
          let x28_28 ← ldI .i64 ((x2_2).add 1)
          let x34_29 ← M.ite (x28_28 == 0) (do
            M.pure true
            ) (do
            let x32_30 ← ldI .i64 ((x2_2).add 1)
            M.pure (x32_30 == 1)
            )
          M.pure x34_29
          ) (do
          M.pure false
          )
        M.pure x35_27
        ) (do
        M.ite (x19_22 == 6) (do
          value_may_j2 x2_2 x3_3 x17_10 x19_22 (x19_22 == 6)
          ) (do
          value_may_j2 x2_2 x3_3 x17_10 x19_22 (x19_22 == 7)
          )
        )
      )
    )
theorem S_value_may (x0 : Array Value) (x1 : Int) : Sound Go.Proofs.Tryz.prog 74 #[.agg x0,.int .i64 x1] (fun (r : Bool)=>.bool r) (value_may x0 x1):=by
  refine sound_of [(0,.agg x0),(1,.int .i64 x1)] Go.Proofs.Tryz.func74 rfl rfl (Nat.le_of_ble_eq_true rfl) (args_of ⟨rfl,rfl,trivial⟩) (fun w0 w Q R a hret hE hR H=>?_)
  unfold value_may at H
  refine w_seq (fun K hK_1=>?_)
  refine t_region ?_
  obtain ⟨x2_2,qx2_2,H⟩:=H
  refine t_valh (v:=.pointer (some x2_2)) rfl rfl hE rfl hR (r_box hE rfl qx2_2) (fun a w hE hR hh=>?_)
  replace H:=M.at hh H; clear hh
  obtain ⟨x3_3,qx3_3,H⟩:=H
  refine t_valh (v:=.pointer (some x3_3)) rfl rfl hE rfl hR (r_box hE rfl qx3_3) (fun a w hE hR hh=>?_)
  replace H:=M.at hh H; clear hh
  refine t_val (v:=.bool false) rfl rfl hE rfl (r_assign hE rfl) (fun a hE=>?_)
  refine t_nil ?_
  refine hK_1 _ _ ?_
  refine w_seq (fun K hK_4=>?_)
  refine w_seq (fun K hK_5=>?_)
  refine t_region ?_
  obtain ⟨x7_6,qx7_6,H⟩:=H
  refine t_val (v:=.int .i64 x7_6) rfl rfl hE rfl (r_load hE rfl sc3 qx7_6) (fun a hE=>?_)
  refine t_val (v:=.bool (decide (x7_6 > 8))) rfl rfl hE rfl (r_bin hE rfl rfl g_int b_gtr) (fun a hE=>?_)
  refine t_nil ?_
  refine hK_5 _ _ ?_
  refine w_cond (decide (x7_6 > 8)) hE rfl (fun hb=>?_) (fun hb=>?_)
  · replace H:=M.ite_t hb H
    refine w_seq (fun K hK_7=>?_)
    refine t_region ?_
    refine t_val (v:=.bool false) rfl rfl hE rfl (r_assign hE rfl) (fun a hE=>?_)
    refine t_nil ?_
    refine hK_7 _ _ ?_
    refine w_ret ?_
    exact hret _ _ _ false _ hE hR (res_run hE rfl (RV.tmp rfl RV.nil)) rfl H
  · replace H:=M.ite_f hb H
    refine w_skip ?_
    refine hK_4 _ _ ?_
    refine w_seq (fun K hK_8=>?_)
    refine t_region ?_
    refine t_val (v:=.pointer (some ((x2_2).add 2))) rfl rfl hE rfl (r_fieldAddr hE rfl fd24_2) (fun a hE=>?_)
    obtain ⟨x10_9,qx10_9,H⟩:=H
    refine t_val (v:=.string x10_9) rfl rfl hE rfl (r_load hE rfl sc9 qx10_9) (fun a hE=>?_)
    refine t_val (v:=.bool (sEq x10_9 ByteArray.empty)) rfl rfl hE rfl (r_bin hE rfl rfl g_str b_eqlS) (fun a hE=>?_)
    refine t_val (v:=.bool (sEq x10_9 ByteArray.empty)) rfl rfl hE rfl (r_move hE rfl) (fun a hE=>?_)
    refine t_grp (n:=(⟨121,[]⟩ : Frm)) (w0:=w0) 5 (fun x17_10 : Bool=>[(2,.pointer (some x2_2)),(3,.pointer (some x3_3)),(17,.bool x17_10)]) (M.unbind H) (fun Kr hKr H=>?_) ?_
    · rcases bool_em (sEq x10_9 ByteArray.empty) with hb | hb
      · replace H:=M.ite_t hb H
        have hE:=hE.reb 12 (sEq x10_9 ByteArray.empty) true hb rfl
        refine t_on rfl hE rfl rfl rfl ?_
        refine t_val (v:=.pointer (some ((x2_2).add 3))) rfl rfl hE rfl (r_fieldAddr hE rfl fd24_3) (fun a hE=>?_)
        refine t_on rfl hE rfl rfl rfl ?_
        obtain ⟨x14_11,qx14_11,H⟩:=H
        refine t_val (v:=(x14_11 : Sl).v) rfl rfl hE rfl (r_load hE rfl sc22 qx14_11) (fun a hE=>?_)
        refine t_on rfl hE rfl rfl rfl ?_
        refine t_val (v:=.int .i64 (x14_11.len : Int)) rfl rfl hE rfl (r_len hE rfl 24 un22) (fun a hE=>?_)
        refine t_on rfl hE rfl rfl rfl ?_
        refine t_val (v:=.bool ((x14_11.len : Int) == 0)) rfl rfl hE rfl (r_bin hE rfl rfl g_int b_eql) (fun a hE=>?_)
        refine t_val rfl rfl hE rfl (r_pick_t hE rfl rfl) (fun a hE=>?_)
        refine t_nil ?_
        exact hKr _ _ _ (hE.cut (.cons rfl (.cons rfl (.cons rfl Subs.nil)))) hR H
      · replace H:=M.ite_f hb H
        have hE:=hE.reb 12 (sEq x10_9 ByteArray.empty) false hb rfl
        refine t_off rfl hE rfl rfl rfl (fun a ea=>?_)
        have hE:=Env.put_some hE rfl ea; clear ea
        refine t_off rfl hE rfl rfl rfl (fun a ea=>?_)
        have hE:=Env.put_some hE rfl ea; clear ea
        refine t_off rfl hE rfl rfl rfl (fun a ea=>?_)
        have hE:=Env.put_some hE rfl ea; clear ea
        refine t_off rfl hE rfl rfl rfl (fun a ea=>?_)
        have hE:=Env.put_some hE rfl ea; clear ea
        refine t_val rfl rfl hE rfl (r_pick_f hE rfl rfl) (fun a hE=>?_)
        refine t_nil ?_
        exact hKr _ _ _ (hE.cut (.cons rfl (.cons rfl (.cons rfl Subs.nil)))) hR H
    · intro x17_10 a w hE hR H
      refine t_val (v:=.bool x17_10) rfl rfl hE rfl (r_assign hE rfl) (fun a hE=>?_)
      refine t_nil ?_
      refine hK_8 _ _ ?_
      refine w_seq_join (fun a w=>Env (⟨121,[]⟩ : Frm) a [(2,.pointer (some x2_2)),(3,.pointer (some x3_3))] ∧ Rest w0 w ∧ (value_may_j1 x2_2 x3_3).wp w.heap Q) ?_ ?_
      · rintro a w ⟨hE,hR,H⟩
        unfold value_may_j1 at H
        refine w_seq (fun K hK_14=>?_)
        refine t_region ?_
        refine t_val (v:=.pointer (some ((x2_2).add 1))) rfl rfl hE rfl (r_fieldAddr hE rfl fd24_1) (fun a hE=>?_)
        obtain ⟨x107_15,qx107_15,H⟩:=H
        refine t_val (v:=.int .i64 x107_15) rfl rfl hE rfl (r_load hE rfl sc2 qx107_15) (fun a hE=>?_)
        refine t_val (v:=.bool (x107_15 == 0)) rfl rfl hE rfl (r_bin hE rfl rfl g_int b_eql) (fun a hE=>?_)
        refine t_val (v:=.bool (x107_15 == 0)) rfl rfl hE rfl (r_move hE rfl) (fun a hE=>?_)
        refine t_grp (n:=(⟨121,[]⟩ : Frm)) (w0:=w0) 4 (fun x113_16 : Bool=>[(2,.pointer (some x2_2)),(3,.pointer (some x3_3)),(113,.bool x113_16)]) (M.unbind H) (fun Kr hKr H=>?_) ?_
        · rcases bool_em (x107_15 == 0) with hb | hb
          · replace H:=M.ite_t hb H
            have hE:=hE.reb 109 (x107_15 == 0) true hb rfl
            refine t_on rfl hE rfl rfl rfl ?_
            refine t_val (v:=.pointer (some ((x2_2).add 2))) rfl rfl hE rfl (r_fieldAddr hE rfl fd24_2) (fun a hE=>?_)
            refine t_on rfl hE rfl rfl rfl ?_
            obtain ⟨x111_17,qx111_17,H⟩:=H
            refine t_val (v:=.string x111_17) rfl rfl hE rfl (r_load hE rfl sc9 qx111_17) (fun a hE=>?_)
            refine t_on rfl hE rfl rfl rfl ?_
            refine t_val (v:=.bool (sEq x111_17 ByteArray.empty)) rfl rfl hE rfl (r_bin hE rfl rfl g_str b_eqlS) (fun a hE=>?_)
            refine t_val rfl rfl hE rfl (r_pick_t hE rfl rfl) (fun a hE=>?_)
            refine t_nil ?_
            exact hKr _ _ _ (hE.cut (.cons rfl (.cons rfl (.cons rfl Subs.nil)))) hR H
          · replace H:=M.ite_f hb H
            have hE:=hE.reb 109 (x107_15 == 0) false hb rfl
            refine t_off rfl hE rfl rfl rfl (fun a ea=>?_)
            have hE:=Env.put_some hE rfl ea; clear ea
            refine t_off rfl hE rfl rfl rfl (fun a ea=>?_)
            have hE:=Env.put_some hE rfl ea; clear ea
            refine t_off rfl hE rfl rfl rfl (fun a ea=>?_)
            have hE:=Env.put_some hE rfl ea; clear ea
            refine t_val rfl rfl hE rfl (r_pick_f hE rfl rfl) (fun a hE=>?_)
            refine t_nil ?_
            exact hKr _ _ _ (hE.cut (.cons rfl (.cons rfl (.cons rfl Subs.nil)))) hR H
        · intro x113_16 a w hE hR H
          refine t_val (v:=.bool x113_16) rfl rfl hE rfl (r_move hE rfl) (fun a hE=>?_)
          refine t_grp (n:=(⟨121,[]⟩ : Frm)) (w0:=w0) 6 (fun x120_18 : Bool=>[(120,.bool x120_18)]) (M.unbind H) (fun Kr hKr H=>?_) ?_
          · rcases bool_em x113_16 with hb | hb
            · replace H:=M.ite_t hb H
              have hE:=hE.reb 114 x113_16 true hb rfl
              refine t_on rfl hE rfl rfl rfl ?_
              refine t_val (v:=.pointer (some ((x2_2).add 3))) rfl rfl hE rfl (r_fieldAddr hE rfl fd24_3) (fun a hE=>?_)
              refine t_on rfl hE rfl rfl rfl ?_
              obtain ⟨x116_19,qx116_19,H⟩:=H
              refine t_val (v:=(x116_19 : Sl).v) rfl rfl hE rfl (r_load hE rfl sc22 qx116_19) (fun a hE=>?_)
              refine t_on rfl hE rfl rfl rfl ?_
              refine t_val (v:=(Value.func (.func fn_value_may_1) #[] #[.pointer (some x3_3)])) rfl rfl hE rfl (r_makeFunc hE rfl) (fun a hE=>?_)
              refine t_on rfl hE rfl rfl rfl ?_
              refine t_call hE hR cl_slices_ContainsFunc_slapi_Value_api_Value rfl (S_slices_ContainsFunc_slapi_Value_api_Value x116_19 (Value.func (.func fn_value_may_1) #[] #[.pointer (some x3_3)])) (M.unbind H) (fun x118_20 a w ea hR H=>?_)
              have hE:=Env.put_some hE rfl ea; clear ea
              refine t_on rfl hE rfl rfl rfl ?_
              refine t_val (v:=.bool (!x118_20)) rfl rfl hE rfl (r_un hE rfl u_not) (fun a hE=>?_)
              refine t_val rfl rfl hE rfl (r_pick_t hE rfl rfl) (fun a hE=>?_)
              refine t_nil ?_
              exact hKr _ _ _ (hE.cut (.cons rfl Subs.nil)) hR H
            · replace H:=M.ite_f hb H
              have hE:=hE.reb 114 x113_16 false hb rfl
              refine t_off rfl hE rfl rfl rfl (fun a ea=>?_)
              have hE:=Env.put_some hE rfl ea; clear ea
              refine t_off rfl hE rfl rfl rfl (fun a ea=>?_)
              have hE:=Env.put_some hE rfl ea; clear ea
              refine t_off rfl hE rfl rfl rfl (fun a ea=>?_)
              have hE:=Env.put_some hE rfl ea; clear ea
              refine t_off rfl hE rfl rfl rfl (fun a ea=>?_)
              have hE:=Env.put_some hE rfl ea; clear ea
              refine t_off rfl hE rfl rfl rfl (fun a ea=>?_)
              have hE:=Env.put_some hE rfl ea; clear ea
              refine t_val rfl rfl hE rfl (r_pick_f hE rfl rfl) (fun a hE=>?_)
              refine t_nil ?_
              exact hKr _ _ _ (hE.cut (.cons rfl Subs.nil)) hR H
          · intro x120_18 a w hE hR H
            refine t_val (v:=.bool x120_18) rfl rfl hE rfl (r_assign hE rfl) (fun a hE=>?_)
            refine t_nil ?_
            refine hK_14 _ _ ?_
            refine w_ret ?_
            exact hret _ _ _ x120_18 _ hE hR (res_run hE rfl (RV.tmp rfl RV.nil)) rfl H
      · skip
        refine w_seq (fun K hK_21=>?_)
        refine t_region ?_
        refine t_val (v:=.pointer (some ((x2_2).add 0))) rfl rfl hE rfl (r_fieldAddr hE rfl fd24_0) (fun a hE=>?_)
        obtain ⟨x19_22,qx19_22,H⟩:=H
        refine t_val (v:=.int .i64 x19_22) rfl rfl hE rfl (r_load hE rfl sc3 qx19_22) (fun a hE=>?_)
        refine t_nil ?_
        refine hK_21 _ _ ?_
        refine w_block ?_
        refine w_seq (fun K hK_23=>?_)
        refine t_region ?_
        refine t_val (v:=.bool (x19_22 == 1)) rfl rfl hE rfl (r_bin hE rfl rfl g_int b_eql) (fun a hE=>?_)
        refine t_val (v:=.bool (x19_22 == 1)) rfl rfl hE rfl (r_assign hE rfl) (fun a hE=>?_)
        refine t_nil ?_
        refine hK_23 _ _ ?_
        refine w_cond (x19_22 == 1) hE rfl (fun hb=>?_) (fun hb=>?_)
        · replace H:=M.ite_t hb H
          refine w_seq (fun K hK_24=>?_)
          refine t_region ?_
          refine t_val (v:=.bool x17_10) rfl rfl hE rfl (r_move hE rfl) (fun a hE=>?_)
          refine t_val (v:=.bool x17_10) rfl rfl hE rfl (r_assign hE rfl) (fun a hE=>?_)
          refine t_nil ?_
          refine hK_24 _ _ ?_
          refine w_ret ?_
          exact hret _ _ _ x17_10 _ hE hR (res_run hE rfl (RV.tmp rfl RV.nil)) rfl H
        · replace H:=M.ite_f hb H
          refine w_seq (fun K hK_25=>?_)
          refine t_region ?_
          refine t_val (v:=.bool (x19_22 == 3)) rfl rfl hE rfl (r_bin hE rfl rfl g_int b_eql) (fun a hE=>?_)
          refine t_val (v:=.bool (x19_22 == 3)) rfl rfl hE rfl (r_assign hE rfl) (fun a hE=>?_)
          refine t_nil ?_
          refine hK_25 _ _ ?_
          refine w_cond (x19_22 == 3) hE rfl (fun hb=>?_) (fun hb=>?_)
          · replace H:=M.ite_t hb H
            refine w_seq (fun K hK_26=>?_)
            refine t_region ?_
            refine t_val (v:=.bool x17_10) rfl rfl hE rfl (r_move hE rfl) (fun a hE=>?_)
            refine t_val (v:=.bool x17_10) rfl rfl hE rfl (r_move hE rfl) (fun a hE=>?_)
            refine t_grp (n:=(⟨121,[]⟩ : Frm)) (w0:=w0) 9 (fun x35_27 : Bool=>[(35,.bool x35_27)]) (M.unbind H) (fun Kr hKr H=>?_) ?_
            · rcases bool_em x17_10 with hb | hb
              · replace H:=M.ite_t hb H
                have hE:=hE.reb 26 x17_10 true hb rfl
                refine t_on rfl hE rfl rfl rfl ?_
                refine t_val (v:=.pointer (some ((x2_2).add 1))) rfl rfl hE rfl (r_fieldAddr hE rfl fd24_1) (fun a hE=>?_)
                refine t_on rfl hE rfl rfl rfl ?_
                obtain ⟨x28_28,qx28_28,H⟩:=H
                refine t_val (v:=.int .i64 x28_28) rfl rfl hE rfl (r_load hE rfl sc2 qx28_28) (fun a hE=>?_)
                refine t_on rfl hE rfl rfl rfl ?_
                refine t_val (v:=.bool (x28_28 == 0)) rfl rfl hE rfl (r_bin hE rfl rfl g_int b_eql) (fun a hE=>?_)
                refine t_on rfl hE rfl rfl rfl ?_
                refine t_val (v:=.bool (x28_28 == 0)) rfl rfl hE rfl (r_move hE rfl) (fun a hE=>?_)
                refine t_grp (n:=(⟨121,[]⟩ : Frm)) (w0:=w0) 4 (fun x34_29 : Bool=>[(26,.bool true),(34,.bool x34_29)]) (M.unbind H) (fun Kr hKr H=>?_) ?_
                · rcases bool_em (x28_28 == 0) with hb | hb
                  · replace H:=M.ite_t hb H
                    have hE:=hE.reb 30 (x28_28 == 0) true hb rfl
                    refine t_off rfl hE rfl rfl rfl (fun a ea=>?_)
                    have hE:=Env.put_some hE rfl ea; clear ea
                    refine t_off rfl hE rfl rfl rfl (fun a ea=>?_)
                    have hE:=Env.put_some hE rfl ea; clear ea
                    refine t_off rfl hE rfl rfl rfl (fun a ea=>?_)
                    have hE:=Env.put_some hE rfl ea; clear ea
                    refine t_on rfl hE rfl rfl rfl ?_
                    refine t_val rfl rfl hE rfl (r_pick_t hE rfl rfl) (fun a hE=>?_)
                    refine t_nil ?_
                    exact hKr _ _ _ (hE.cut (.cons rfl (.cons rfl Subs.nil))) hR H
                  · replace H:=M.ite_f hb H
                    have hE:=hE.reb 30 (x28_28 == 0) false hb rfl
                    refine t_on rfl hE rfl rfl rfl ?_
                    refine t_val (v:=.pointer (some ((x2_2).add 1))) rfl rfl hE rfl (r_fieldAddr hE rfl fd24_1) (fun a hE=>?_)
                    refine t_on rfl hE rfl rfl rfl ?_
                    obtain ⟨x32_30,qx32_30,H⟩:=H
                    refine t_val (v:=.int .i64 x32_30) rfl rfl hE rfl (r_load hE rfl sc2 qx32_30) (fun a hE=>?_)
                    refine t_on rfl hE rfl rfl rfl ?_
                    refine t_val (v:=.bool (x32_30 == 1)) rfl rfl hE rfl (r_bin hE rfl rfl g_int b_eql) (fun a hE=>?_)
                    refine t_on rfl hE rfl rfl rfl ?_
                    refine t_val rfl rfl hE rfl (r_pick_f hE rfl rfl) (fun a hE=>?_)
                    refine t_nil ?_
                    exact hKr _ _ _ (hE.cut (.cons rfl (.cons rfl Subs.nil))) hR H
                · intro x34_29 a w hE hR H
                  refine t_val rfl rfl hE rfl (r_pick_t hE rfl rfl) (fun a hE=>?_)
                  refine t_nil ?_
                  exact hKr _ _ _ (hE.cut (.cons rfl Subs.nil)) hR H
              · replace H:=M.ite_f hb H
                have hE:=hE.reb 26 x17_10 false hb rfl
                refine t_off rfl hE rfl rfl rfl (fun a ea=>?_)
                have hE:=Env.put_some hE rfl ea; clear ea
                refine t_off rfl hE rfl rfl rfl (fun a ea=>?_)
                have hE:=Env.put_some hE rfl ea; clear ea
                refine t_off rfl hE rfl rfl rfl (fun a ea=>?_)
                have hE:=Env.put_some hE rfl ea; clear ea
                refine t_off rfl hE rfl rfl rfl (fun a ea=>?_)
                have hE:=Env.put_some hE rfl ea; clear ea
                refine t_off' rfl hE rfl rfl (fun b hb=>by cases hb) (fun a ea=>?_)
                have hE:=Env.put_some hE rfl ea; clear ea
                refine t_off' rfl hE rfl rfl (fun b hb=>by cases hb) (fun a ea=>?_)
                have hE:=Env.put_some hE rfl ea; clear ea
                refine t_off' rfl hE rfl rfl (fun b hb=>by cases hb) (fun a ea=>?_)
                have hE:=Env.put_some hE rfl ea; clear ea
                refine t_off rfl hE rfl rfl rfl (fun a ea=>?_)
                have hE:=Env.put_some hE rfl ea; clear ea
                refine t_val rfl rfl hE rfl (r_pick_f hE rfl rfl) (fun a hE=>?_)
                refine t_nil ?_
                exact hKr _ _ _ (hE.cut (.cons rfl Subs.nil)) hR H
            · intro x35_27 a w hE hR H
              refine t_val (v:=.bool x35_27) rfl rfl hE rfl (r_assign hE rfl) (fun a hE=>?_)
              refine t_nil ?_
              refine hK_26 _ _ ?_
              refine w_ret ?_
              exact hret _ _ _ x35_27 _ hE hR (res_run hE rfl (RV.tmp rfl RV.nil)) rfl H
          · replace H:=M.ite_f hb H
            refine w_seq_join (fun a w=>∃ (x36_31 : Bool),Env (⟨121,[]⟩ : Frm) a [(2,.pointer (some x2_2)),(3,.pointer (some x3_3)),(5,.bool x17_10),(19,.int .i64 x19_22),(36,.bool x36_31)] ∧ Rest w0 w ∧ (value_may_j2 x2_2 x3_3 x17_10 x19_22 x36_31).wp w.heap Q) ?_ ?_
            · rintro a w ⟨x36_31,hE,hR,H⟩
              unfold value_may_j2 at H
              refine w_cond x36_31 hE rfl (fun hb=>?_) (fun hb=>?_)
              · replace H:=M.ite_t hb H
                refine w_seq (fun K hK_36=>?_)
                refine t_region ?_
                refine t_val (v:=.bool x17_10) rfl rfl hE rfl (r_move hE rfl) (fun a hE=>?_)
                refine t_val (v:=.bool x17_10) rfl rfl hE rfl (r_move hE rfl) (fun a hE=>?_)
                refine t_grp (n:=(⟨121,[]⟩ : Frm)) (w0:=w0) 4 (fun x44_37 : Bool=>[(2,.pointer (some x2_2)),(44,.bool x44_37)]) (M.unbind H) (fun Kr hKr H=>?_) ?_
                · rcases bool_em x17_10 with hb | hb
                  · replace H:=M.ite_t hb H
                    have hE:=hE.reb 40 x17_10 true hb rfl
                    refine t_on rfl hE rfl rfl rfl ?_
                    refine t_val (v:=.pointer (some ((x2_2).add 1))) rfl rfl hE rfl (r_fieldAddr hE rfl fd24_1) (fun a hE=>?_)
                    refine t_on rfl hE rfl rfl rfl ?_
                    obtain ⟨x42_38,qx42_38,H⟩:=H
                    refine t_val (v:=.int .i64 x42_38) rfl rfl hE rfl (r_load hE rfl sc2 qx42_38) (fun a hE=>?_)
                    refine t_on rfl hE rfl rfl rfl ?_
                    refine t_val (v:=.bool (decide (x42_38 ≥ 1))) rfl rfl hE rfl (r_bin hE rfl rfl g_int b_geq) (fun a hE=>?_)
                    refine t_val rfl rfl hE rfl (r_pick_t hE rfl rfl) (fun a hE=>?_)
                    refine t_nil ?_
                    exact hKr _ _ _ (hE.cut (.cons rfl (.cons rfl Subs.nil))) hR H
                  · replace H:=M.ite_f hb H
                    have hE:=hE.reb 40 x17_10 false hb rfl
                    refine t_off rfl hE rfl rfl rfl (fun a ea=>?_)
                    have hE:=Env.put_some hE rfl ea; clear ea
                    refine t_off rfl hE rfl rfl rfl (fun a ea=>?_)
                    have hE:=Env.put_some hE rfl ea; clear ea
                    refine t_off rfl hE rfl rfl rfl (fun a ea=>?_)
                    have hE:=Env.put_some hE rfl ea; clear ea
                    refine t_val rfl rfl hE rfl (r_pick_f hE rfl rfl) (fun a hE=>?_)
                    refine t_nil ?_
                    exact hKr _ _ _ (hE.cut (.cons rfl (.cons rfl Subs.nil))) hR H
                · intro x44_37 a w hE hR H
                  refine t_val (v:=.bool x44_37) rfl rfl hE rfl (r_move hE rfl) (fun a hE=>?_)
                  refine t_grp (n:=(⟨121,[]⟩ : Frm)) (w0:=w0) 4 (fun x49_39 : Bool=>[(49,.bool x49_39)]) (M.unbind H) (fun Kr hKr H=>?_) ?_
                  · rcases bool_em x44_37 with hb | hb
                    · replace H:=M.ite_t hb H
                      have hE:=hE.reb 45 x44_37 true hb rfl
                      refine t_on rfl hE rfl rfl rfl ?_
                      refine t_val (v:=.pointer (some ((x2_2).add 1))) rfl rfl hE rfl (r_fieldAddr hE rfl fd24_1) (fun a hE=>?_)
                      refine t_on rfl hE rfl rfl rfl ?_
                      obtain ⟨x47_40,qx47_40,H⟩:=H
                      refine t_val (v:=.int .i64 x47_40) rfl rfl hE rfl (r_load hE rfl sc2 qx47_40) (fun a hE=>?_)
                      refine t_on rfl hE rfl rfl rfl ?_
                      refine t_val (v:=.bool (decide (x47_40 ≤ 281474976710656))) rfl rfl hE rfl (r_bin hE rfl rfl g_int b_leq) (fun a hE=>?_)
                      refine t_val rfl rfl hE rfl (r_pick_t hE rfl rfl) (fun a hE=>?_)
                      refine t_nil ?_
                      exact hKr _ _ _ (hE.cut (.cons rfl Subs.nil)) hR H
                    · replace H:=M.ite_f hb H
                      have hE:=hE.reb 45 x44_37 false hb rfl
                      refine t_off rfl hE rfl rfl rfl (fun a ea=>?_)
                      have hE:=Env.put_some hE rfl ea; clear ea
                      refine t_off rfl hE rfl rfl rfl (fun a ea=>?_)
                      have hE:=Env.put_some hE rfl ea; clear ea
                      refine t_off rfl hE rfl rfl rfl (fun a ea=>?_)
                      have hE:=Env.put_some hE rfl ea; clear ea
                      refine t_val rfl rfl hE rfl (r_pick_f hE rfl rfl) (fun a hE=>?_)
                      refine t_nil ?_
                      exact hKr _ _ _ (hE.cut (.cons rfl Subs.nil)) hR H
                  · intro x49_39 a w hE hR H
                    refine t_val (v:=.bool x49_39) rfl rfl hE rfl (r_assign hE rfl) (fun a hE=>?_)
                    refine t_nil ?_
                    refine hK_36 _ _ ?_
                    refine w_ret ?_
                    exact hret _ _ _ x49_39 _ hE hR (res_run hE rfl (RV.tmp rfl RV.nil)) rfl H
              · replace H:=M.ite_f hb H
                refine w_seq (fun K hK_41=>?_)
                refine t_region ?_
                refine t_val (v:=.bool (x19_22 == 2)) rfl rfl hE rfl (r_bin hE rfl rfl g_int b_eql) (fun a hE=>?_)
                refine t_val (v:=.bool (x19_22 == 2)) rfl rfl hE rfl (r_assign hE rfl) (fun a hE=>?_)
                refine t_nil ?_
                refine hK_41 _ _ ?_
                refine w_cond (x19_22 == 2) hE rfl (fun hb=>?_) (fun hb=>?_)
                · replace H:=M.ite_t hb H
                  refine w_seq (fun K hK_42=>?_)
                  refine t_region ?_
                  refine t_val (v:=.pointer (some ((x2_2).add 1))) rfl rfl hE rfl (r_fieldAddr hE rfl fd24_1) (fun a hE=>?_)
                  obtain ⟨x53_43,qx53_43,H⟩:=H
                  refine t_val (v:=.int .i64 x53_43) rfl rfl hE rfl (r_load hE rfl sc2 qx53_43) (fun a hE=>?_)
                  refine t_val (v:=.bool (x53_43 == 0)) rfl rfl hE rfl (r_bin hE rfl rfl g_int b_eql) (fun a hE=>?_)
                  refine t_val (v:=.bool (x53_43 == 0)) rfl rfl hE rfl (r_move hE rfl) (fun a hE=>?_)
                  refine t_grp (n:=(⟨121,[]⟩ : Frm)) (w0:=w0) 5 (fun x60_44 : Bool=>[(2,.pointer (some x2_2)),(60,.bool x60_44)]) (M.unbind H) (fun Kr hKr H=>?_) ?_
                  · rcases bool_em (x53_43 == 0) with hb | hb
                    · replace H:=M.ite_t hb H
                      have hE:=hE.reb 55 (x53_43 == 0) true hb rfl
                      refine t_on rfl hE rfl rfl rfl ?_
                      refine t_val (v:=.pointer (some ((x2_2).add 3))) rfl rfl hE rfl (r_fieldAddr hE rfl fd24_3) (fun a hE=>?_)
                      refine t_on rfl hE rfl rfl rfl ?_
                      obtain ⟨x57_45,qx57_45,H⟩:=H
                      refine t_val (v:=(x57_45 : Sl).v) rfl rfl hE rfl (r_load hE rfl sc22 qx57_45) (fun a hE=>?_)
                      refine t_on rfl hE rfl rfl rfl ?_
                      refine t_val (v:=.int .i64 (x57_45.len : Int)) rfl rfl hE rfl (r_len hE rfl 24 un22) (fun a hE=>?_)
                      refine t_on rfl hE rfl rfl rfl ?_
                      refine t_val (v:=.bool ((x57_45.len : Int) == 0)) rfl rfl hE rfl (r_bin hE rfl rfl g_int b_eql) (fun a hE=>?_)
                      refine t_val rfl rfl hE rfl (r_pick_t hE rfl rfl) (fun a hE=>?_)
                      refine t_nil ?_
                      exact hKr _ _ _ (hE.cut (.cons rfl (.cons rfl Subs.nil))) hR H
                    · replace H:=M.ite_f hb H
                      have hE:=hE.reb 55 (x53_43 == 0) false hb rfl
                      refine t_off rfl hE rfl rfl rfl (fun a ea=>?_)
                      have hE:=Env.put_some hE rfl ea; clear ea
                      refine t_off rfl hE rfl rfl rfl (fun a ea=>?_)
                      have hE:=Env.put_some hE rfl ea; clear ea
                      refine t_off rfl hE rfl rfl rfl (fun a ea=>?_)
                      have hE:=Env.put_some hE rfl ea; clear ea
                      refine t_off rfl hE rfl rfl rfl (fun a ea=>?_)
                      have hE:=Env.put_some hE rfl ea; clear ea
                      refine t_val rfl rfl hE rfl (r_pick_f hE rfl rfl) (fun a hE=>?_)
                      refine t_nil ?_
                      exact hKr _ _ _ (hE.cut (.cons rfl (.cons rfl Subs.nil))) hR H
                  · intro x60_44 a w hE hR H
                    refine t_val (v:=.bool x60_44) rfl rfl hE rfl (r_move hE rfl) (fun a hE=>?_)
                    refine t_grp (n:=(⟨121,[]⟩ : Frm)) (w0:=w0) 5 (fun x66_46 : Bool=>[(66,.bool x66_46)]) (M.unbind H) (fun Kr hKr H=>?_) ?_
                    · rcases bool_em x60_44 with hb | hb
                      · replace H:=M.ite_t hb H
                        have hE:=hE.reb 61 x60_44 true hb rfl
                        refine t_on rfl hE rfl rfl rfl ?_
                        refine t_val (v:=.pointer (some ((x2_2).add 2))) rfl rfl hE rfl (r_fieldAddr hE rfl fd24_2) (fun a hE=>?_)
                        refine t_on rfl hE rfl rfl rfl ?_
                        obtain ⟨x63_47,qx63_47,H⟩:=H
                        refine t_val (v:=.string x63_47) rfl rfl hE rfl (r_load hE rfl sc9 qx63_47) (fun a hE=>?_)
                        refine t_on rfl hE rfl rfl rfl ?_
                        refine t_val (v:=.int .i64 (x63_47.size : Int)) rfl rfl hE rfl (r_lenS hE rfl un9) (fun a hE=>?_)
                        refine t_on rfl hE rfl rfl rfl ?_
                        refine t_val (v:=.bool (decide ((x63_47.size : Int) ≤ 128))) rfl rfl hE rfl (r_bin hE rfl rfl g_int b_leq) (fun a hE=>?_)
                        refine t_val rfl rfl hE rfl (r_pick_t hE rfl rfl) (fun a hE=>?_)
                        refine t_nil ?_
                        exact hKr _ _ _ (hE.cut (.cons rfl Subs.nil)) hR H
                      · replace H:=M.ite_f hb H
                        have hE:=hE.reb 61 x60_44 false hb rfl
                        refine t_off rfl hE rfl rfl rfl (fun a ea=>?_)
                        have hE:=Env.put_some hE rfl ea; clear ea
                        refine t_off rfl hE rfl rfl rfl (fun a ea=>?_)
                        have hE:=Env.put_some hE rfl ea; clear ea
                        refine t_off rfl hE rfl rfl rfl (fun a ea=>?_)
                        have hE:=Env.put_some hE rfl ea; clear ea
                        refine t_off rfl hE rfl rfl rfl (fun a ea=>?_)
                        have hE:=Env.put_some hE rfl ea; clear ea
                        refine t_val rfl rfl hE rfl (r_pick_f hE rfl rfl) (fun a hE=>?_)
                        refine t_nil ?_
                        exact hKr _ _ _ (hE.cut (.cons rfl Subs.nil)) hR H
                    · intro x66_46 a w hE hR H
                      refine t_val (v:=.bool x66_46) rfl rfl hE rfl (r_assign hE rfl) (fun a hE=>?_)
                      refine t_nil ?_
                      refine hK_42 _ _ ?_
                      refine w_ret ?_
                      exact hret _ _ _ x66_46 _ hE hR (res_run hE rfl (RV.tmp rfl RV.nil)) rfl H
                · replace H:=M.ite_f hb H
                  refine w_seq (fun K hK_48=>?_)
                  refine t_region ?_
                  refine t_val (v:=.bool (x19_22 == 4)) rfl rfl hE rfl (r_bin hE rfl rfl g_int b_eql) (fun a hE=>?_)
                  refine t_val (v:=.bool (x19_22 == 4)) rfl rfl hE rfl (r_assign hE rfl) (fun a hE=>?_)
                  refine t_nil ?_
                  refine hK_48 _ _ ?_
                  refine w_cond (x19_22 == 4) hE rfl (fun hb=>?_) (fun hb=>?_)
                  · replace H:=M.ite_t hb H
                    refine w_seq (fun K hK_49=>?_)
                    refine t_region ?_
                    refine t_val (v:=.pointer (some ((x2_2).add 3))) rfl rfl hE rfl (r_fieldAddr hE rfl fd24_3) (fun a hE=>?_)
                    obtain ⟨x70_50,qx70_50,H⟩:=H
                    refine t_val (v:=(x70_50 : Sl).v) rfl rfl hE rfl (r_load hE rfl sc22 qx70_50) (fun a hE=>?_)
                    refine t_val (v:=.int .i64 (x70_50.len : Int)) rfl rfl hE rfl (r_len hE rfl 24 un22) (fun a hE=>?_)
                    refine t_val (v:=.bool (decide ((x70_50.len : Int) > 256))) rfl rfl hE rfl (r_bin hE rfl rfl g_int b_gtr) (fun a hE=>?_)
                    refine t_nil ?_
                    refine hK_49 _ _ ?_
                    refine w_cond (decide ((x70_50.len : Int) > 256)) hE rfl (fun hb=>?_) (fun hb=>?_)
                    · replace H:=M.ite_t hb H
                      refine w_seq (fun K hK_51=>?_)
                      refine t_region ?_
                      refine t_val (v:=.bool false) rfl rfl hE rfl (r_assign hE rfl) (fun a hE=>?_)
                      refine t_nil ?_
                      refine hK_51 _ _ ?_
                      refine w_ret ?_
                      exact hret _ _ _ false _ hE hR (res_run hE rfl (RV.tmp rfl RV.nil)) rfl H
                    · replace H:=M.ite_f hb H
                      refine w_skip ?_
                      exact ⟨hE.cut (.cons rfl (.cons rfl Subs.nil)),hR,H⟩
                  · replace H:=M.ite_f hb H
                    refine w_seq (fun K hK_52=>?_)
                    refine t_region ?_
                    refine t_val (v:=.bool (x19_22 == 5)) rfl rfl hE rfl (r_bin hE rfl rfl g_int b_eql) (fun a hE=>?_)
                    refine t_val (v:=.bool (x19_22 == 5)) rfl rfl hE rfl (r_assign hE rfl) (fun a hE=>?_)
                    refine t_nil ?_
                    refine hK_52 _ _ ?_
                    refine w_cond (x19_22 == 5) hE rfl (fun hb=>?_) (fun hb=>?_)
                    · replace H:=M.ite_t hb H
                      refine w_seq (fun K hK_53=>?_)
                      refine w_seq (fun K hK_54=>?_)
                      refine t_region ?_
                      refine t_val (v:=.pointer (some ((x2_2).add 3))) rfl rfl hE rfl (r_fieldAddr hE rfl fd24_3) (fun a hE=>?_)
                      obtain ⟨x76_55,qx76_55,H⟩:=H
                      refine t_val (v:=(x76_55 : Sl).v) rfl rfl hE rfl (r_load hE rfl sc22 qx76_55) (fun a hE=>?_)
                      refine t_val (v:=.int .i64 (x76_55.len : Int)) rfl rfl hE rfl (r_len hE rfl 24 un22) (fun a hE=>?_)
                      refine t_val (v:=.bool (decide ((x76_55.len : Int) > 512))) rfl rfl hE rfl (r_bin hE rfl rfl g_int b_gtr) (fun a hE=>?_)
                      refine t_val (v:=.bool (decide ((x76_55.len : Int) > 512))) rfl rfl hE rfl (r_move hE rfl) (fun a hE=>?_)
                      refine t_grp (n:=(⟨121,[]⟩ : Frm)) (w0:=w0) 6 (fun x85_56 : Bool=>[(2,.pointer (some x2_2)),(3,.pointer (some x3_3)),(85,.bool x85_56)]) (M.unbind H) (fun Kr hKr H=>?_) ?_
                      · rcases bool_em (decide ((x76_55.len : Int) > 512)) with hb | hb
                        · replace H:=M.ite_t hb H
                          have hE:=hE.reb 79 (decide ((x76_55.len : Int) > 512)) true hb rfl
                          refine t_off rfl hE rfl rfl rfl (fun a ea=>?_)
                          have hE:=Env.put_some hE rfl ea; clear ea
                          refine t_off rfl hE rfl rfl rfl (fun a ea=>?_)
                          have hE:=Env.put_some hE rfl ea; clear ea
                          refine t_off rfl hE rfl rfl rfl (fun a ea=>?_)
                          have hE:=Env.put_some hE rfl ea; clear ea
                          refine t_off rfl hE rfl rfl rfl (fun a ea=>?_)
                          have hE:=Env.put_some hE rfl ea; clear ea
                          refine t_off rfl hE rfl rfl rfl (fun a ea=>?_)
                          have hE:=Env.put_some hE rfl ea; clear ea
                          refine t_val rfl rfl hE rfl (r_pick_t hE rfl rfl) (fun a hE=>?_)
                          refine t_nil ?_
                          exact hKr _ _ _ (hE.cut (.cons rfl (.cons rfl (.cons rfl Subs.nil)))) hR H
                        · replace H:=M.ite_f hb H
                          have hE:=hE.reb 79 (decide ((x76_55.len : Int) > 512)) false hb rfl
                          refine t_on rfl hE rfl rfl rfl ?_
                          refine t_val (v:=.pointer (some ((x2_2).add 3))) rfl rfl hE rfl (r_fieldAddr hE rfl fd24_3) (fun a hE=>?_)
                          refine t_on rfl hE rfl rfl rfl ?_
                          obtain ⟨x81_57,qx81_57,H⟩:=H
                          refine t_val (v:=(x81_57 : Sl).v) rfl rfl hE rfl (r_load hE rfl sc22 qx81_57) (fun a hE=>?_)
                          refine t_on rfl hE rfl rfl rfl ?_
                          refine t_val (v:=.int .i64 (x81_57.len : Int)) rfl rfl hE rfl (r_len hE rfl 24 un22) (fun a hE=>?_)
                          refine t_on rfl hE rfl rfl rfl ?_
                          refine t_val (v:=.int .i64 (Int.tmod (x81_57.len : Int) 2)) rfl rfl hE rfl (r_bin hE rfl rfl g_int (b_rem ⟨by decide,rfl⟩)) (fun a hE=>?_)
                          refine t_on rfl hE rfl rfl rfl ?_
                          refine t_val (v:=.bool ((Int.tmod (x81_57.len : Int) 2) == 1)) rfl rfl hE rfl (r_bin hE rfl rfl g_int b_eql) (fun a hE=>?_)
                          refine t_val rfl rfl hE rfl (r_pick_f hE rfl rfl) (fun a hE=>?_)
                          refine t_nil ?_
                          exact hKr _ _ _ (hE.cut (.cons rfl (.cons rfl (.cons rfl Subs.nil)))) hR H
                      · intro x85_56 a w hE hR H
                        refine t_nil ?_
                        refine hK_54 _ _ ?_
                        refine w_cond x85_56 hE rfl (fun hb=>?_) (fun hb=>?_)
                        · replace H:=M.ite_t hb H
                          refine w_seq (fun K hK_58=>?_)
                          refine t_region ?_
                          refine t_val (v:=.bool false) rfl rfl hE rfl (r_assign hE rfl) (fun a hE=>?_)
                          refine t_nil ?_
                          refine hK_58 _ _ ?_
                          refine w_ret ?_
                          exact hret _ _ _ false _ hE hR (res_run hE rfl (RV.tmp rfl RV.nil)) rfl H
                        · replace H:=M.ite_f hb H
                          refine w_skip ?_
                          refine hK_53 _ _ ?_
                          refine w_seq (fun K hK_59=>?_)
                          refine t_region ?_
                          refine t_val (v:=.int .i64 2) rfl rfl hE rfl (r_assign hE rfl) (fun a hE=>?_)
                          refine t_nil ?_
                          refine hK_59 _ _ ?_
                          refine w_block ?_
                          refine l_loop (fun (s : Int)=>(⟨121,[]⟩ : Frm)) (fun (s : Int)=>[(2,.pointer (some x2_2)),(3,.pointer (some x3_3)),(6,.int .i64 s)]) H (hE.cut (.cons rfl (.cons rfl (.cons rfl Subs.nil)))) hR (fun Y self1 hY_63 x6_60 a w hE hR H=>?_)
                          replace hE : Env (⟨121,[]⟩ : Frm) a [(2,.pointer (some x2_2)),(3,.pointer (some x3_3)),(6,.int .i64 x6_60)]:=hE
                          replace H : (value_may_l1 x2_2 x3_3 self1 x6_60).wp w.heap Q:=H
                          unfold value_may_l1 at H
                          refine w_seq (fun K hK_64=>?_)
                          refine w_seq (fun K hK_65=>?_)
                          refine t_region ?_
                          refine t_val (v:=.int .i64 x6_60) rfl rfl hE rfl (r_move hE rfl) (fun a hE=>?_)
                          refine t_val (v:=.pointer (some ((x2_2).add 3))) rfl rfl hE rfl (r_fieldAddr hE rfl fd24_3) (fun a hE=>?_)
                          obtain ⟨x88_66,qx88_66,H⟩:=H
                          refine t_val (v:=(x88_66 : Sl).v) rfl rfl hE rfl (r_load hE rfl sc22 qx88_66) (fun a hE=>?_)
                          refine t_val (v:=.int .i64 (x88_66.len : Int)) rfl rfl hE rfl (r_len hE rfl 24 un22) (fun a hE=>?_)
                          refine t_val (v:=.bool (decide (x6_60 < (x88_66.len : Int)))) rfl rfl hE rfl (r_bin hE rfl rfl g_int b_lss) (fun a hE=>?_)
                          refine t_nil ?_
                          refine hK_65 _ _ ?_
                          refine w_cond (decide (x6_60 < (x88_66.len : Int))) hE rfl (fun hb=>?_) (fun hb=>?_)
                          · replace H:=M.ite_t hb H
                            refine w_skip ?_
                            refine hK_64 _ _ ?_
                            refine w_seq (fun K hK_67=>?_)
                            refine w_block ?_
                            refine w_seq (fun K hK_68=>?_)
                            obtain ⟨x94_69,qx94_69,H⟩:=H
                            obtain ⟨x97_70,qx97_70,H⟩:=H
                            obtain ⟨x98_71,qx98_71,H⟩:=H
                            obtain ⟨x100_72,qx100_72,H⟩:=H
                            obtain ⟨x102_73,qx102_73,H⟩:=H
                            obtain ⟨x103_74,qx103_74,H⟩:=H
                            have hT:=tab_of tb74_24 rfl rfl
                            refine d_start (fun w : World=>(fun h : Heap=>(hcell h ((x2_2).add 3) = some ((x94_69 : Sl).v)) ∧ (x98_71.size = 4 ∧ ∀ i,i < 4 → hcell h (Addr.add x97_70 i) = x98_71[i]?) ∧ (hcell h ((x2_2).add 3) = some ((x100_72 : Sl).v)) ∧ (x103_74.size = 4 ∧ ∀ i,i < 4 → hcell h (Addr.add x102_73 i) = x103_74[i]?)) w.heap) [11,12] #[false,false,false,false,false,false,false,false,false,false,false,false,false] mo hR rfl rfl (fun w' e=>by rw [e]; exact ⟨qx94_69,qx98_71,qx100_72,qx103_74⟩) (fun w hh hR hs=>?_)
                            replace H:=M.at hh H; clear hh
                            refine d_pureg (i:=0) (v:=.pointer (some ((x2_2).add 3))) #[true,false,false,false,false,false,false,false,false,false,false,false,false] rfl rfl hT (by kernel_rfl) hE rfl (wanted_none rfl) (fun w=>r_fieldAddr hE rfl fd24_3) (fun a hE=>?_)
                            refine d_pureg (i:=2) (v:=.int .i64 x6_60) #[true,false,true,false,false,false,false,false,false,false,false,false,false] rfl rfl hT (by kernel_rfl) hE rfl (wanted_none rfl) (fun w=>r_move hE rfl) (fun a hE=>?_)
                            refine d_pureg (i:=3) (v:=.int .i64 (IntKind.wrap .i64 (x6_60 - 2))) #[true,false,true,true,false,false,false,false,false,false,false,false,false] rfl rfl hT (by kernel_rfl) hE rfl (wanted_none rfl) (fun w=>r_bin hE rfl rfl g_int b_sub) (fun a hE=>?_)
                            refine d_pureg (i:=6) (v:=.pointer (some ((x2_2).add 3))) #[true,false,true,true,false,false,true,false,false,false,false,false,false] rfl rfl hT (by kernel_rfl) hE rfl (wanted_none rfl) (fun w=>r_fieldAddr hE rfl fd24_3) (fun a hE=>?_)
                            refine d_pureg (i:=8) (v:=.int .i64 x6_60) #[true,false,true,true,false,false,true,false,true,false,false,false,false] rfl rfl hT (by kernel_rfl) hE rfl (wanted_none rfl) (fun w=>r_move hE rfl) (fun a hE=>?_)
                            refine d_read (i:=1) (v:=(x94_69 : Sl).v) #[true,true,true,true,false,false,true,false,true,false,false,false,false] rfl rfl hT (by kernel_rfl) hE rfl (wanted_none rfl) hs (fun w s=>r_load hE rfl sc22 s.1) (fun a hE=>?_)
                            refine d_pureg (i:=4) (v:=.pointer (some x97_70)) #[true,true,true,true,true,false,true,false,true,false,false,false,false] rfl rfl hT (by kernel_rfl) hE rfl (wanted_none rfl) (fun w=>r_indexAddrL hE rfl rfl un22 sz24 qx97_70) (fun a hE=>?_)
                            refine d_read (i:=5) (v:=.agg x98_71) #[true,true,true,true,true,true,true,false,true,false,false,false,false] rfl rfl hT (by kernel_rfl) hE rfl (wanted_none rfl) hs (fun w s=>r_loadG hE rfl ag24 s.2.1) (fun a hE=>?_)
                            refine d_read (i:=7) (v:=(x100_72 : Sl).v) #[true,true,true,true,true,true,true,true,true,false,false,false,false] rfl rfl hT (by kernel_rfl) hE rfl (wanted_none rfl) hs (fun w s=>r_load hE rfl sc22 s.2.2.1) (fun a hE=>?_)
                            refine d_pureg (i:=9) (v:=.pointer (some x102_73)) #[true,true,true,true,true,true,true,true,true,true,false,false,false] rfl rfl hT (by kernel_rfl) hE rfl (wanted_none rfl) (fun w=>r_indexAddrL hE rfl rfl un22 sz24 qx102_73) (fun a hE=>?_)
                            refine d_read (i:=10) (v:=.agg x103_74) #[true,true,true,true,true,true,true,true,true,true,true,false,false] rfl rfl hT (by kernel_rfl) hE rfl (wanted_none rfl) hs (fun w s=>r_loadG hE rfl ag24 s.2.2.2) (fun a hE=>?_)
                            refine d_calll (i:=11) #[true,true,true,true,true,true,true,true,true,true,true,true,false] rfl rfl rfl hT (by kernel_rfl) rfl hE hR (wanted_none rfl) cl_value_Compare rfl (S_value_Compare x98_71 x103_74) (M.unbind H) (fun x104_75 a w ea hR H=>?_)
                            have hE:=Env.put_some hE rfl ea; clear ea
                            refine d_pureg (i:=12) (v:=.bool (decide (x104_75 ≥ 0))) #[true,true,true,true,true,true,true,true,true,true,true,true,true] rfl rfl hT (by kernel_rfl) hE rfl (wanted_none rfl) (fun w=>r_bin hE rfl rfl g_int b_geq) (fun a hE=>?_)
                            refine d_done hT (by kernel_rfl) ?_
                            refine hK_68 _ _ ?_
                            refine w_cond (decide (x104_75 ≥ 0)) hE rfl (fun hb=>?_) (fun hb=>?_)
                            · replace H:=M.ite_t hb H
                              refine w_seq (fun K hK_76=>?_)
                              refine t_region ?_
                              refine t_val (v:=.bool false) rfl rfl hE rfl (r_assign hE rfl) (fun a hE=>?_)
                              refine t_nil ?_
                              refine hK_76 _ _ ?_
                              refine w_ret ?_
                              exact hret _ _ _ false _ hE hR (res_run hE rfl (RV.tmp rfl RV.nil)) rfl H
                            · replace H:=M.ite_f hb H
                              refine w_skip ?_
                              refine hK_67 _ _ ?_
                              refine t_region ?_
                              refine t_val (v:=.int .i64 x6_60) rfl rfl hE rfl (r_move hE rfl) (fun a hE=>?_)
                              refine t_val (v:=.int .i64 (IntKind.wrap .i64 (x6_60 + 2))) rfl rfl hE rfl (r_bin hE rfl rfl g_int b_add) (fun a hE=>?_)
                              refine t_val (v:=.int .i64 (IntKind.wrap .i64 (x6_60 + 2))) rfl rfl hE rfl (r_assign hE rfl) (fun a hE=>?_)
                              refine t_nil ?_
                              exact hY_63 (IntKind.wrap .i64 (x6_60 + 2)) _ _ (hE.cut (.cons rfl (.cons rfl (.cons rfl Subs.nil)))) hR H
                          · replace H:=M.ite_f hb H
                            refine w_exit ?_
                            refine Xu.same ?_
                            exact ⟨hE.cut (.cons rfl (.cons rfl Subs.nil)),hR,H⟩
                    · replace H:=M.ite_f hb H
                      refine w_seq (fun K hK_77=>?_)
                      refine t_region ?_
                      refine t_val (v:=.bool false) rfl rfl hE rfl (r_assign hE rfl) (fun a hE=>?_)
                      refine t_nil ?_
                      refine hK_77 _ _ ?_
                      refine w_ret ?_
                      exact hret _ _ _ false _ hE hR (res_run hE rfl (RV.tmp rfl RV.nil)) rfl H
            · skip
              refine w_seq (fun K hK_78=>?_)
              refine t_region ?_
              refine t_val (v:=.bool (x19_22 == 6)) rfl rfl hE rfl (r_bin hE rfl rfl g_int b_eql) (fun a hE=>?_)
              refine t_val (v:=.bool (x19_22 == 6)) rfl rfl hE rfl (r_assign hE rfl) (fun a hE=>?_)
              refine t_nil ?_
              refine hK_78 _ _ ?_
              refine w_cond (x19_22 == 6) hE rfl (fun hb=>?_) (fun hb=>?_)
              · replace H:=M.ite_t hb H
                refine w_skip ?_
                exact ⟨x19_22 == 6,hE.cut (.cons rfl (.cons rfl (.cons rfl (.cons rfl (.cons rfl Subs.nil))))),hR,H⟩
              · replace H:=M.ite_f hb H
                refine t_region ?_
                refine t_val (v:=.bool (x19_22 == 7)) rfl rfl hE rfl (r_bin hE rfl rfl g_int b_eql) (fun a hE=>?_)
                refine t_val (v:=.bool (x19_22 == 7)) rfl rfl hE rfl (r_assign hE rfl) (fun a hE=>?_)
                refine t_nil ?_
                exact ⟨x19_22 == 7,hE.cut (.cons rfl (.cons rfl (.cons rfl (.cons rfl (.cons rfl Subs.nil))))),hR,H⟩

def value_Check (x0 : Array Value) : M (Int):=do
  let x1_2 ← mkB ty_api_Value x0
  let x3_5 ← ldG 4 x1_2
  let x4_6 ← value_may x3_5 1
  M.ite (!x4_6) (do
    M.pure 20
    ) (do
    M.pure 0
    )
theorem S_value_Check (x0 : Array Value) : Sound Go.Proofs.Tryz.prog 16 #[.agg x0] (fun (r : Int)=>.int .i64 r) (value_Check x0):=by
  refine sound_of [(0,.agg x0)] Go.Proofs.Tryz.func16 rfl rfl (Nat.le_of_ble_eq_true rfl) (args_of ⟨rfl,trivial⟩) (fun w0 w Q R a hret hE hR H=>?_)
  unfold value_Check at H
  refine w_seq (fun K hK_1=>?_)
  refine t_region ?_
  obtain ⟨x1_2,qx1_2,H⟩:=H
  refine t_valh (v:=.pointer (some x1_2)) rfl rfl hE rfl hR (r_box hE rfl qx1_2) (fun a w hE hR hh=>?_)
  replace H:=M.at hh H; clear hh
  refine t_val (v:=.int .i64 0) rfl rfl hE rfl (r_assign hE rfl) (fun a hE=>?_)
  refine t_nil ?_
  refine hK_1 _ _ ?_
  refine w_seq (fun K hK_3=>?_)
  refine w_seq (fun K hK_4=>?_)
  refine t_region ?_
  obtain ⟨x3_5,qx3_5,H⟩:=H
  refine t_val (v:=.agg x3_5) rfl rfl hE rfl (r_loadG hE rfl ag24 qx3_5) (fun a hE=>?_)
  refine t_call hE hR cl_value_may rfl (S_value_may x3_5 1) (M.unbind H) (fun x4_6 a w ea hR H=>?_)
  have hE:=Env.put_some hE rfl ea; clear ea
  refine t_val (v:=.bool (!x4_6)) rfl rfl hE rfl (r_un hE rfl u_not) (fun a hE=>?_)
  refine t_nil ?_
  refine hK_4 _ _ ?_
  refine w_cond (!x4_6) hE rfl (fun hb=>?_) (fun hb=>?_)
  · replace H:=M.ite_t hb H
    refine w_seq (fun K hK_7=>?_)
    refine t_region ?_
    refine t_val (v:=.int .i64 20) rfl rfl hE rfl (r_assign hE rfl) (fun a hE=>?_)
    refine t_nil ?_
    refine hK_7 _ _ ?_
    refine w_ret ?_
    exact hret _ _ _ 20 _ hE hR (res_run hE rfl (RV.tmp rfl RV.nil)) rfl H
  · replace H:=M.ite_f hb H
    refine w_skip ?_
    refine hK_3 _ _ ?_
    refine w_seq (fun K hK_8=>?_)
    refine t_region ?_
    refine t_val (v:=.int .i64 0) rfl rfl hE rfl (r_assign hE rfl) (fun a hE=>?_)
    refine t_nil ?_
    refine hK_8 _ _ ?_
    refine w_ret ?_
    exact hret _ _ _ 0 _ hE hR (res_run hE rfl (RV.tmp rfl RV.nil)) rfl H

def value_Parse (x0 : ByteArray) : M (Array Value × Int × Int):=do
  let x2_2 ← mkB ty_api_Value (#[.int .i64 0,.int .i64 0,.string ByteArray.empty,.slice none 0 0] : Array Value)
  let x10_4 ← callF Go.Proofs.Tryz.prog fn_value_read #[.string x0] (fun r : Array Value × Int × Bool=>.tuple #[.agg r.1,.int .i64 r.2.1,.bool r.2.2])
  let x5_5 ← mkB ty_api_Value (#[.int .i64 0,.int .i64 0,.string ByteArray.empty,.slice none 0 0] : Array Value)
  M.need (x10_4.1.size = 4)
  stG x5_5 x10_4.1
  M.ite (!x10_4.2.2) (do
    M.need ((#[.int .i64 0,.int .i64 0,.string ByteArray.empty,.slice none 0 0] : Array Value).size = 4)
    stG x2_2 (#[.int .i64 0,.int .i64 0,.string ByteArray.empty,.slice none 0 0] : Array Value)
    let r2_11 ← ldG 4 x2_2
    M.pure (r2_11,x10_4.2.1,22)
    ) (do
    let x20_13 ← ldG 4 x5_5
    let x21_14 ← value_Check x20_13
    M.ite (x21_14 != 0) (do
      M.need ((#[.int .i64 0,.int .i64 0,.string ByteArray.empty,.slice none 0 0] : Array Value).size = 4)
      stG x2_2 (#[.int .i64 0,.int .i64 0,.string ByteArray.empty,.slice none 0 0] : Array Value)
      let r2_17 ← ldG 4 x2_2
      M.pure (r2_17,0,20)
      ) (do
      let x24_19 ← ldG 4 x5_5
      M.need (x24_19.size = 4)
      stG x2_2 x24_19
      let r2_21 ← ldG 4 x2_2
      M.pure (r2_21,0,0)
      )
    )
theorem S_value_Parse (x0 : ByteArray) : Sound Go.Proofs.Tryz.prog 17 #[.string x0] (fun (r : Array Value × Int × Int)=>.tuple #[.agg r.1,.int .i64 r.2.1,.int .i64 r.2.2]) (value_Parse x0):=by
  refine sound_of [(0,.string x0)] Go.Proofs.Tryz.func17 rfl rfl (Nat.le_of_ble_eq_true rfl) (args_of ⟨rfl,trivial⟩) (fun w0 w Q R a hret hE hR H=>?_)
  unfold value_Parse at H
  refine w_seq (fun K hK_1=>?_)
  refine t_region ?_
  obtain ⟨x2_2,qx2_2,H⟩:=H
  refine t_valh (v:=.pointer (some x2_2)) rfl rfl hE rfl hR (r_alloc zr24 qx2_2) (fun a w hE hR hh=>?_)
  replace H:=M.at hh H; clear hh
  refine t_val (v:=.int .i64 0) rfl rfl hE rfl (r_assign hE rfl) (fun a hE=>?_)
  refine t_val (v:=.int .i64 0) rfl rfl hE rfl (r_assign hE rfl) (fun a hE=>?_)
  refine t_nil ?_
  refine hK_1 _ _ ?_
  refine w_seq (fun K hK_3=>?_)
  refine t_region ?_
  refine t_val (v:=.string x0) rfl rfl hE rfl (r_move hE rfl) (fun a hE=>?_)
  refine t_call hE hR cl_value_read rfl (sound_callF) (M.unbind H) (fun x10_4 a w ea hR H=>?_)
  have hE:=Env.put_some hE rfl ea; clear ea
  refine t_val (v:=.tuple #[.agg x10_4.1,.int .i64 x10_4.2.1,.bool x10_4.2.2]) rfl rfl hE rfl (r_move hE rfl) (fun a hE=>?_)
  refine t_val (v:=.agg x10_4.1) rfl rfl hE rfl (r_extract hE rfl rfl) (fun a hE=>?_)
  refine t_val (v:=.int .i64 x10_4.2.1) rfl rfl hE rfl (r_extract hE rfl rfl) (fun a hE=>?_)
  refine t_val (v:=.bool x10_4.2.2) rfl rfl hE rfl (r_extract hE rfl rfl) (fun a hE=>?_)
  obtain ⟨x5_5,qx5_5,H⟩:=H
  refine t_valh (v:=.pointer (some x5_5)) rfl rfl hE rfl hR (r_alloc zr24 qx5_5) (fun a w hE hR hh=>?_)
  replace H:=M.at hh H; clear hh
  obtain ⟨qz,H⟩:=H
  obtain ⟨u_6,qu_6,H⟩:=H
  refine t_sth rfl rfl hE hR (r_storeG hE rfl rfl sz24 qz qu_6) (fun a w hE hR hh=>?_)
  replace H:=M.at hh H; clear hh
  refine t_val (v:=.int .i64 x10_4.2.1) rfl rfl hE rfl (r_assign hE rfl) (fun a hE=>?_)
  refine t_val (v:=.bool x10_4.2.2) rfl rfl hE rfl (r_assign hE rfl) (fun a hE=>?_)
  refine t_nil ?_
  refine hK_3 _ _ ?_
  refine w_seq (fun K hK_7=>?_)
  refine w_block ?_
  refine w_seq (fun K hK_8=>?_)
  refine t_region ?_
  refine t_val (v:=.bool x10_4.2.2) rfl rfl hE rfl (r_move hE rfl) (fun a hE=>?_)
  refine t_val (v:=.bool (!x10_4.2.2)) rfl rfl hE rfl (r_un hE rfl u_not) (fun a hE=>?_)
  refine t_val (v:=.bool (!x10_4.2.2)) rfl rfl hE rfl (r_assign hE rfl) (fun a hE=>?_)
  refine t_nil ?_
  refine hK_8 _ _ ?_
  refine w_cond (!x10_4.2.2) hE rfl (fun hb=>?_) (fun hb=>?_)
  · replace H:=M.ite_t hb H
    refine w_seq (fun K hK_9=>?_)
    refine t_region ?_
    refine t_val (v:=.agg (#[.int .i64 0,.int .i64 0,.string ByteArray.empty,.slice none 0 0] : Array Value)) rfl rfl hE rfl (r_build0 bd24) (fun a hE=>?_)
    refine t_val (v:=.int .i64 x10_4.2.1) rfl rfl hE rfl (r_move hE rfl) (fun a hE=>?_)
    obtain ⟨qz,H⟩:=H
    obtain ⟨u_10,qu_10,H⟩:=H
    refine t_sth rfl rfl hE hR (r_storeG hE rfl rfl sz24 qz qu_10) (fun a w hE hR hh=>?_)
    replace H:=M.at hh H; clear hh
    refine t_val (v:=.int .i64 x10_4.2.1) rfl rfl hE rfl (r_assign hE rfl) (fun a hE=>?_)
    refine t_val (v:=.int .i64 22) rfl rfl hE rfl (r_assign hE rfl) (fun a hE=>?_)
    refine t_nil ?_
    refine hK_9 _ _ ?_
    refine w_ret ?_
    obtain ⟨r2_11,qr2_11,H⟩:=H
    exact hret _ _ _ (r2_11,x10_4.2.1,22) _ hE hR (res_run hE rfl (RV.cellG rfl ag24 qr2_11 (RV.tmp rfl (RV.tmp rfl RV.nil)))) rfl H
  · replace H:=M.ite_f hb H
    refine w_seq (fun K hK_12=>?_)
    refine t_region ?_
    obtain ⟨x20_13,qx20_13,H⟩:=H
    refine t_val (v:=.agg x20_13) rfl rfl hE rfl (r_loadG hE rfl ag24 qx20_13) (fun a hE=>?_)
    refine t_call hE hR cl_value_Check rfl (S_value_Check x20_13) (M.unbind H) (fun x21_14 a w ea hR H=>?_)
    have hE:=Env.put_some hE rfl ea; clear ea
    refine t_val (v:=.bool (x21_14 != 0)) rfl rfl hE rfl (r_bin hE rfl rfl g_int b_neq) (fun a hE=>?_)
    refine t_val (v:=.bool (x21_14 != 0)) rfl rfl hE rfl (r_assign hE rfl) (fun a hE=>?_)
    refine t_nil ?_
    refine hK_12 _ _ ?_
    refine w_cond (x21_14 != 0) hE rfl (fun hb=>?_) (fun hb=>?_)
    · replace H:=M.ite_t hb H
      refine w_seq (fun K hK_15=>?_)
      refine t_region ?_
      refine t_val (v:=.agg (#[.int .i64 0,.int .i64 0,.string ByteArray.empty,.slice none 0 0] : Array Value)) rfl rfl hE rfl (r_build0 bd24) (fun a hE=>?_)
      obtain ⟨qz,H⟩:=H
      obtain ⟨u_16,qu_16,H⟩:=H
      refine t_sth rfl rfl hE hR (r_storeG hE rfl rfl sz24 qz qu_16) (fun a w hE hR hh=>?_)
      replace H:=M.at hh H; clear hh
      refine t_val (v:=.int .i64 0) rfl rfl hE rfl (r_assign hE rfl) (fun a hE=>?_)
      refine t_val (v:=.int .i64 20) rfl rfl hE rfl (r_assign hE rfl) (fun a hE=>?_)
      refine t_nil ?_
      refine hK_15 _ _ ?_
      refine w_ret ?_
      obtain ⟨r2_17,qr2_17,H⟩:=H
      exact hret _ _ _ (r2_17,0,20) _ hE hR (res_run hE rfl (RV.cellG rfl ag24 qr2_17 (RV.tmp rfl (RV.tmp rfl RV.nil)))) rfl H
    · replace H:=M.ite_f hb H
      refine w_skip ?_
      refine hK_7 _ _ ?_
      refine w_seq (fun K hK_18=>?_)
      refine t_region ?_
      obtain ⟨x24_19,qx24_19,H⟩:=H
      refine t_val (v:=.agg x24_19) rfl rfl hE rfl (r_loadG hE rfl ag24 qx24_19) (fun a hE=>?_)
      obtain ⟨qz,H⟩:=H
      obtain ⟨u_20,qu_20,H⟩:=H
      refine t_sth rfl rfl hE hR (r_storeG hE rfl rfl sz24 qz qu_20) (fun a w hE hR hh=>?_)
      replace H:=M.at hh H; clear hh
      refine t_val (v:=.int .i64 0) rfl rfl hE rfl (r_assign hE rfl) (fun a hE=>?_)
      refine t_val (v:=.int .i64 0) rfl rfl hE rfl (r_assign hE rfl) (fun a hE=>?_)
      refine t_nil ?_
      refine hK_18 _ _ ?_
      refine w_ret ?_
      obtain ⟨r2_21,qr2_21,H⟩:=H
      exact hret _ _ _ (r2_21,0,0) _ hE hR (res_run hE rfl (RV.cellG rfl ag24 qr2_21 (RV.tmp rfl (RV.tmp rfl RV.nil)))) rfl H

end Gx
