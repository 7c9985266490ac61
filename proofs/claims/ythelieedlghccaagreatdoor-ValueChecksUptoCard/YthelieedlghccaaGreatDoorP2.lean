/- Printed by program: Go functions as Lean programs, each tied to its code. No condition. -/
import Derived.Test.YthelieedlghccaaGreatDoorP0
import Derived.Test.YthelieedlghccaaGreatDoorP1
import Derived.Test.YthelieedlghccaaGreatDoorProg
import Derived.KernelRfl
import Derived.Lib.AtoiErrMem
import Derived.Shelf.Small.Bits
import Derived.Shelf.Small.Strs
import Derived.Shelf.Strconv.Itoa3
import Derived.Shelf.Strconv.ParseInt10All
import Derived.Shelf.Strings.Builder1
import Derived.Shelf.Strings.Search1
import Derived.Shelf.Strings.Search2
set_option linter.unusedVariables false
set_option linter.unusedSimpArgs false
namespace Gx
open Go
abbrev YR:Nat:=198
abbrev KBl:Nat:=114
abbrev NT:Nat:=160
abbrev GX:Nat:=38
abbrev Wg:Nat:=139
abbrev N9:Nat:=84
abbrev ZM:Nat:=136
abbrev JX:Nat:=179
abbrev KAF:Nat:=39
abbrev GS:Nat:=13
abbrev Xd:Nat:=80
abbrev Xe:Nat:=129
abbrev qA:Nat:=75
abbrev Yc:Nat:=176
abbrev Vh:Nat:=131
abbrev KBA:Nat:=76
abbrev KCI:Nat:=221
abbrev W8:Nat:=246
abbrev KJ:Nat:=24
abbrev zg:Nat:=4
abbrev Gm:Nat:=3
abbrev Kn:Nat:=225
abbrev Kp:Nat:=228
abbrev JN:Nat:=22
abbrev XQ:Nat:=89
abbrev Nd:Nat:=249
abbrev Xo:Nat:=9
abbrev Jw:Nat:=109
abbrev Zi:Nat:=5
abbrev Y4:Nat:=146
abbrev Jr:Nat:=142
theorem mo:Go.Proofs.Tryz.prog.follows .mixedOrders=true:=by kernel_rfl
theorem Ng:Go.Proofs.Tryz.prog.underlying 118=some (.slice 9):=by kernel_rfl
theorem KHj:Go.Proofs.Tryz.prog.underlying 136=some (.slice 3):=by kernel_rfl
theorem KEP:Go.Proofs.Tryz.prog.underlying 154=some (.int .u64):=by kernel_rfl
theorem KIe:Go.Proofs.Tryz.prog.underlying 165=some (.pointer 5):=by kernel_rfl
theorem zh:Go.Proofs.Tryz.prog.underlying 184=some (.int .u64):=by kernel_rfl
theorem un2:Go.Proofs.Tryz.prog.underlying 2=some (.int .i64):=by kernel_rfl
theorem un22:Go.Proofs.Tryz.prog.underlying 22=some (.slice 24):=by kernel_rfl
theorem KF9:Go.Proofs.Tryz.prog.underlying 221=some (.array 24 5):=by kernel_rfl
theorem KJR:Go.Proofs.Tryz.prog.underlying 245=some (.array 20 154):=by kernel_rfl
theorem KCJ:Go.Proofs.Tryz.prog.underlying 246=some (.array 65 5):=by kernel_rfl
theorem KJS:Go.Proofs.Tryz.prog.underlying 259=some (.array 64 5):=by kernel_rfl
theorem un3:Go.Proofs.Tryz.prog.underlying 3=some (.int .i64):=by kernel_rfl
theorem un35:Go.Proofs.Tryz.prog.underlying 35=some (.slice 5):=by kernel_rfl
theorem un5:Go.Proofs.Tryz.prog.underlying 5=some (.int .u8):=by kernel_rfl
theorem un89:Go.Proofs.Tryz.prog.underlying 89=some (.slice 22):=by kernel_rfl
theorem un9:Go.Proofs.Tryz.prog.underlying 9=some (.string):=by kernel_rfl
theorem KIf:((Go.Proofs.Tryz.prog.info? 109).bind (·.zero))=some (.agg (#[.pointer none,.slice none 0 0]:Array Value)):=by kernel_rfl
theorem KIg:((Go.Proofs.Tryz.prog.info? 142).bind (·.zero))=some (.agg (#[.int .i64 0]:Array Value)):=by kernel_rfl
theorem zr22:((Go.Proofs.Tryz.prog.info? 22).bind (·.zero))=some (.slice none 0 0):=by kernel_rfl
theorem KJT:((Go.Proofs.Tryz.prog.info? 221).bind (·.zero))=some (.agg (Array.replicate 24 (.int .u8 0):Array Value)):=by kernel_rfl
theorem zr24:((Go.Proofs.Tryz.prog.info? 24).bind (·.zero))=some (.agg (#[.int .i64 0,.int .i64 0,.string ByteArray.empty,.slice none 0 0]:Array Value)):=by kernel_rfl
theorem KJU:((Go.Proofs.Tryz.prog.info? 246).bind (·.zero))=some (.agg (Array.replicate 65 (.int .u8 0):Array Value)):=by kernel_rfl
theorem KJV:((Go.Proofs.Tryz.prog.info? 249).bind (·.zero))=some (.agg (#[.string ByteArray.empty,.string ByteArray.empty,.nilIface]:Array Value)):=by kernel_rfl
theorem zr3:((Go.Proofs.Tryz.prog.info? 3).bind (·.zero))=some (.int .i64 0):=by kernel_rfl
theorem zr5:((Go.Proofs.Tryz.prog.info? 5).bind (·.zero))=some (.int .u8 0):=by kernel_rfl
theorem zr9:((Go.Proofs.Tryz.prog.info? 9).bind (·.zero))=some (.string ByteArray.empty):=by kernel_rfl
theorem ag24:agB Go.Proofs.Tryz.prog 24 4=true:=by kernel_rfl
theorem KJW:apB Go.Proofs.Tryz.prog 118 9 1 16 (#[.string ByteArray.empty]:Array Value):=⟨Ng,KA5 (by kernel_rfl)⟩
theorem ap22:apB Go.Proofs.Tryz.prog 22 24 4 56 (#[.int .i64 0,.int .i64 0,.string ByteArray.empty,.slice none 0 0]:Array Value):=⟨un22,KA5 (by kernel_rfl)⟩
theorem ap35:apB Go.Proofs.Tryz.prog 35 5 1 1 (#[.int .u8 0]:Array Value):=⟨un35,KA5 (by kernel_rfl)⟩
theorem ap89:apB Go.Proofs.Tryz.prog 89 22 1 24 (#[.slice none 0 0]:Array Value):=⟨un89,KA5 (by kernel_rfl)⟩
theorem bd24:∀ w,(Instr.build 24 #[]).run Go.Proofs.Tryz.prog w=.ok (.agg (#[.int .i64 0,.int .i64 0,.string ByteArray.empty,.slice none 0 0]:Array Value)) w:=fun w=>by kernel_rfl
theorem qB:Callee? Go.Proofs.Tryz.prog 70:=KO Go.Proofs.Tryz.func70 (by kernel_rfl) rfl
theorem NK:Callee? Go.Proofs.Tryz.prog 71:=KO Go.Proofs.Tryz.func71 (by kernel_rfl) rfl
theorem KBB:Callee? Go.Proofs.Tryz.prog 69:=KO Go.Proofs.Tryz.func69 (by kernel_rfl) rfl
theorem GT:Callee? Go.Proofs.Tryz.prog 125:=KO Go.Proofs.Tryz.func125 (by kernel_rfl) rfl
theorem XR:Callee? Go.Proofs.Tryz.prog 126:=KO Go.Proofs.Tryz.func126 (by kernel_rfl) rfl
theorem Wh:Callee? Go.Proofs.Tryz.prog 127:=KO Go.Proofs.Tryz.func127 (by kernel_rfl) rfl
theorem YS:Callee? Go.Proofs.Tryz.prog 198:=KO Go.Proofs.Tryz.func198 (by kernel_rfl) rfl
theorem Yk:Callee? Go.Proofs.Tryz.prog 201:=KO Go.Proofs.Tryz.func201 (by kernel_rfl) rfl
theorem YT:Callee? Go.Proofs.Tryz.prog 248:=KO Go.Proofs.Tryz.func248 (by kernel_rfl) rfl
theorem Wv:Callee? Go.Proofs.Tryz.prog 229:=KO Go.Proofs.Tryz.func229 (by kernel_rfl) rfl
theorem YK:Callee? Go.Proofs.Tryz.prog 230:=KO Go.Proofs.Tryz.func230 (by kernel_rfl) rfl
theorem Ww:Callee? Go.Proofs.Tryz.prog 249:=KO Go.Proofs.Tryz.func249 (by kernel_rfl) rfl
theorem YU:Callee? Go.Proofs.Tryz.prog 247:=KO Go.Proofs.Tryz.func247 (by kernel_rfl) rfl
theorem YV:Callee? Go.Proofs.Tryz.prog 228:=KO Go.Proofs.Tryz.func228 (by kernel_rfl) rfl
theorem Xf:Callee? Go.Proofs.Tryz.prog 227:=KO Go.Proofs.Tryz.func227 (by kernel_rfl) rfl
theorem YW:Callee? Go.Proofs.Tryz.prog 253:=KO Go.Proofs.Tryz.func253 (by kernel_rfl) rfl
theorem Wi:Callee? Go.Proofs.Tryz.prog 194:=KO Go.Proofs.Tryz.func194 (by kernel_rfl) rfl
theorem qC:Callee? Go.Proofs.Tryz.prog 217:=KO Go.Proofs.Tryz.func217 (by kernel_rfl) rfl
theorem XM:Callee? Go.Proofs.Tryz.prog 250:=KO Go.Proofs.Tryz.func250 (by kernel_rfl) rfl
theorem Yl:Callee? Go.Proofs.Tryz.prog 259:=KO Go.Proofs.Tryz.func259 (by kernel_rfl) rfl
theorem KBm:Callee? Go.Proofs.Tryz.prog 114:=KO Go.Proofs.Tryz.func114 (by kernel_rfl) rfl
theorem KAG:Callee? Go.Proofs.Tryz.prog 160:=KO Go.Proofs.Tryz.func160 (by kernel_rfl) rfl
theorem Nh:Callee? Go.Proofs.Tryz.prog 109:=KO Go.Proofs.Tryz.func109 (by kernel_rfl) rfl
theorem KCK:Callee? Go.Proofs.Tryz.prog 141:=KO Go.Proofs.Tryz.func141 (by kernel_rfl) rfl
theorem NL:Callee? Go.Proofs.Tryz.prog 14:=KO Go.Proofs.Tryz.func14 (by kernel_rfl) rfl
theorem Ni:Callee? Go.Proofs.Tryz.prog 35:=KO Go.Proofs.Tryz.func35 (by kernel_rfl) rfl
theorem Yd:Callee? Go.Proofs.Tryz.prog 25:=KO Go.Proofs.Tryz.func25 (by kernel_rfl) rfl
theorem UC:Callee? Go.Proofs.Tryz.prog 38:=KO Go.Proofs.Tryz.func38 (by kernel_rfl) rfl
theorem Nj:Callee? Go.Proofs.Tryz.prog 33:=KO Go.Proofs.Tryz.func33 (by kernel_rfl) rfl
theorem qD:Callee? Go.Proofs.Tryz.prog 27:=KO Go.Proofs.Tryz.func27 (by kernel_rfl) rfl
theorem Nk:Callee? Go.Proofs.Tryz.prog 23:=KO Go.Proofs.Tryz.func23 (by kernel_rfl) rfl
theorem qE:Callee? Go.Proofs.Tryz.prog 24:=KO Go.Proofs.Tryz.func24 (by kernel_rfl) rfl
theorem JO:Callee? Go.Proofs.Tryz.prog 19:=KO Go.Proofs.Tryz.func19 (by kernel_rfl) rfl
theorem qF:Callee? Go.Proofs.Tryz.prog 29:=KO Go.Proofs.Tryz.func29 (by kernel_rfl) rfl
theorem Gn:Callee? Go.Proofs.Tryz.prog 31:=KO Go.Proofs.Tryz.func31 (by kernel_rfl) rfl
theorem XS:Callee? Go.Proofs.Tryz.prog 139:=KO Go.Proofs.Tryz.func139 (by kernel_rfl) rfl
theorem Y5:Callee? Go.Proofs.Tryz.prog 83:=KO Go.Proofs.Tryz.func83 (by kernel_rfl) rfl
theorem XT:Callee? Go.Proofs.Tryz.prog 84:=KO Go.Proofs.Tryz.func84 (by kernel_rfl) rfl
theorem Ut:Callee? Go.Proofs.Tryz.prog 85:=KO Go.Proofs.Tryz.func85 (by kernel_rfl) rfl
theorem NM:Callee? Go.Proofs.Tryz.prog 140:=KO Go.Proofs.Tryz.func140 (by kernel_rfl) rfl
theorem Nl:Callee? Go.Proofs.Tryz.prog 86:=KO Go.Proofs.Tryz.func86 (by kernel_rfl) rfl
theorem U5:Callee? Go.Proofs.Tryz.prog 135:=KO Go.Proofs.Tryz.func135 (by kernel_rfl) rfl
theorem WA:Callee? Go.Proofs.Tryz.prog 78:=KO Go.Proofs.Tryz.func78 (by kernel_rfl) rfl
theorem Vi:Callee? Go.Proofs.Tryz.prog 136:=KO Go.Proofs.Tryz.func136 (by kernel_rfl) rfl
theorem WB:Callee? Go.Proofs.Tryz.prog 21:=KO Go.Proofs.Tryz.func21 (by kernel_rfl) rfl
theorem YX:Callee? Go.Proofs.Tryz.prog 77:=KO Go.Proofs.Tryz.func77 (by kernel_rfl) rfl
theorem Jo:Callee? Go.Proofs.Tryz.prog 73:=KO Go.Proofs.Tryz.func73 (by kernel_rfl) rfl
theorem Vs:Callee? Go.Proofs.Tryz.prog 82:=KO Go.Proofs.Tryz.func82 (by kernel_rfl) rfl
theorem VB:Callee? Go.Proofs.Tryz.prog 128:=KO Go.Proofs.Tryz.func128 (by kernel_rfl) rfl
theorem Wb:Callee? Go.Proofs.Tryz.prog 159:=KO Go.Proofs.Tryz.func159 (by kernel_rfl) rfl
theorem WE:Callee? Go.Proofs.Tryz.prog 138:=KO Go.Proofs.Tryz.func138 (by kernel_rfl) rfl
theorem VU:Callee? Go.Proofs.Tryz.prog 169:=KO Go.Proofs.Tryz.func169 (by kernel_rfl) rfl
theorem W9:Callee? Go.Proofs.Tryz.prog 200:=KO Go.Proofs.Tryz.func200 (by kernel_rfl) rfl
theorem Um:Callee? Go.Proofs.Tryz.prog 79:=KO Go.Proofs.Tryz.func79 (by kernel_rfl) rfl
theorem J8:Callee? Go.Proofs.Tryz.prog 178:=KO Go.Proofs.Tryz.func178 (by kernel_rfl) rfl
theorem WN:Callee? Go.Proofs.Tryz.prog 220:=KO Go.Proofs.Tryz.func220 (by kernel_rfl) rfl
theorem WO:Callee? Go.Proofs.Tryz.prog 137:=KO Go.Proofs.Tryz.func137 (by kernel_rfl) rfl
theorem JT:Callee? Go.Proofs.Tryz.prog 244:=KO Go.Proofs.Tryz.func244 (by kernel_rfl) rfl
theorem Zy:Callee? Go.Proofs.Tryz.prog 179:=KO Go.Proofs.Tryz.func179 (by kernel_rfl) rfl
theorem WC:Callee? Go.Proofs.Tryz.prog 156:=KO Go.Proofs.Tryz.func156 (by kernel_rfl) rfl
theorem Nm:Callee? Go.Proofs.Tryz.prog 161:=KO Go.Proofs.Tryz.func161 (by kernel_rfl) rfl
theorem NN:Callee? Go.Proofs.Tryz.prog 234:=KO Go.Proofs.Tryz.func234 (by kernel_rfl) rfl
theorem GF:Callee? Go.Proofs.Tryz.prog 235:=KO Go.Proofs.Tryz.func235 (by kernel_rfl) rfl
theorem Gp:Callee? Go.Proofs.Tryz.prog 233:=KO Go.Proofs.Tryz.func233 (by kernel_rfl) rfl
theorem GY:Callee? Go.Proofs.Tryz.prog 232:=KO Go.Proofs.Tryz.func232 (by kernel_rfl) rfl
theorem qG:Callee? Go.Proofs.Tryz.prog 202:=KO Go.Proofs.Tryz.func202 (by kernel_rfl) rfl
theorem GG:Callee? Go.Proofs.Tryz.prog 177:=KO Go.Proofs.Tryz.func177 (by kernel_rfl) rfl
theorem WF:Callee? Go.Proofs.Tryz.prog 97:=KO Go.Proofs.Tryz.func97 (by kernel_rfl) rfl
theorem JJ:Callee? Go.Proofs.Tryz.prog 96:=KO Go.Proofs.Tryz.func96 (by kernel_rfl) rfl
theorem Zf:Callee? Go.Proofs.Tryz.prog 95:=KO Go.Proofs.Tryz.func95 (by kernel_rfl) rfl
theorem UY:Callee? Go.Proofs.Tryz.prog 150:=KO Go.Proofs.Tryz.func150 (by kernel_rfl) rfl
theorem GH:Callee? Go.Proofs.Tryz.prog 219:=KO Go.Proofs.Tryz.func219 (by kernel_rfl) rfl
theorem qH:Callee? Go.Proofs.Tryz.prog 72:=KO Go.Proofs.Tryz.func72 (by kernel_rfl) rfl
theorem Ye:Callee? Go.Proofs.Tryz.prog 242:=KO Go.Proofs.Tryz.func242 (by kernel_rfl) rfl
theorem zi:Callee? Go.Proofs.Tryz.prog 134:=KO Go.Proofs.Tryz.func134 (by kernel_rfl) rfl
theorem Ym:Callee? Go.Proofs.Tryz.prog 34:=KO Go.Proofs.Tryz.func34 (by kernel_rfl) rfl
theorem Xg:Callee? Go.Proofs.Tryz.prog 16:=KO Go.Proofs.Tryz.func16 (by kernel_rfl) rfl
theorem NU:Callee? Go.Proofs.Tryz.prog 39:=KO Go.Proofs.Tryz.func39 (by kernel_rfl) rfl
theorem WL:Callee? Go.Proofs.Tryz.prog 13:=KO Go.Proofs.Tryz.func13 (by kernel_rfl) rfl
theorem KBC:Callee? Go.Proofs.Tryz.prog 32:=KO Go.Proofs.Tryz.func32 (by kernel_rfl) rfl
theorem Gq:Callee? Go.Proofs.Tryz.prog 26:=KO Go.Proofs.Tryz.func26 (by kernel_rfl) rfl
theorem KBD:Callee? Go.Proofs.Tryz.prog 22:=KO Go.Proofs.Tryz.func22 (by kernel_rfl) rfl
theorem zB:Callee? Go.Proofs.Tryz.prog 20:=KO Go.Proofs.Tryz.func20 (by kernel_rfl) rfl
theorem KAH:Callee? Go.Proofs.Tryz.prog 80:=KO Go.Proofs.Tryz.func80 (by kernel_rfl) rfl
theorem KAI:Callee? Go.Proofs.Tryz.prog 17:=KO Go.Proofs.Tryz.func17 (by kernel_rfl) rfl
theorem KBE:Callee? Go.Proofs.Tryz.prog 15:=KO Go.Proofs.Tryz.func15 (by kernel_rfl) rfl
theorem XU:Callee? Go.Proofs.Tryz.prog 28:=KO Go.Proofs.Tryz.func28 (by kernel_rfl) rfl
theorem KBF:Callee? Go.Proofs.Tryz.prog 18:=KO Go.Proofs.Tryz.func18 (by kernel_rfl) rfl
theorem zj:Callee? Go.Proofs.Tryz.prog 30:=KO Go.Proofs.Tryz.func30 (by kernel_rfl) rfl
theorem Xh:Callee? Go.Proofs.Tryz.prog 171:=KO Go.Proofs.Tryz.func171 (by kernel_rfl) rfl
theorem qI:Callee? Go.Proofs.Tryz.prog 81:=KO Go.Proofs.Tryz.func81 (by kernel_rfl) rfl
theorem zC:Callee? Go.Proofs.Tryz.prog 74:=KO Go.Proofs.Tryz.func74 (by kernel_rfl) rfl
theorem KAJ:Callee? Go.Proofs.Tryz.prog 129:=KO Go.Proofs.Tryz.func129 (by kernel_rfl) rfl
theorem KAK:Callee? Go.Proofs.Tryz.prog 133:=KO Go.Proofs.Tryz.func133 (by kernel_rfl) rfl
theorem KBG:Callee? Go.Proofs.Tryz.prog 75:=KO Go.Proofs.Tryz.func75 (by kernel_rfl) rfl
theorem Wj:Callee? Go.Proofs.Tryz.prog 175:=KO Go.Proofs.Tryz.func175 (by kernel_rfl) rfl
theorem GI:Callee? Go.Proofs.Tryz.prog 218:=KO Go.Proofs.Tryz.func218 (by kernel_rfl) rfl
theorem Zg:Callee? Go.Proofs.Tryz.prog 132:=KO Go.Proofs.Tryz.func132 (by kernel_rfl) rfl
theorem ZG:Callee? Go.Proofs.Tryz.prog 170:=KO Go.Proofs.Tryz.func170 (by kernel_rfl) rfl
theorem Yf:Callee? Go.Proofs.Tryz.prog 176:=KO Go.Proofs.Tryz.func176 (by kernel_rfl) rfl
theorem JG:Callee? Go.Proofs.Tryz.prog 174:=KO Go.Proofs.Tryz.func174 (by kernel_rfl) rfl
theorem Wz:Callee? Go.Proofs.Tryz.prog 172:=KO Go.Proofs.Tryz.func172 (by kernel_rfl) rfl
theorem Nn:Callee? Go.Proofs.Tryz.prog 173:=KO Go.Proofs.Tryz.func173 (by kernel_rfl) rfl
theorem Vj:Callee? Go.Proofs.Tryz.prog 131:=KO Go.Proofs.Tryz.func131 (by kernel_rfl) rfl
theorem qJ:Callee? Go.Proofs.Tryz.prog 76:=KO Go.Proofs.Tryz.func76 (by kernel_rfl) rfl
theorem KCu:cmB Go.Proofs.Tryz.prog 225=true:=by kernel_rfl
theorem co5:Go.Proofs.Tryz.prog.cellsOf 5=1:=by kernel_rfl
theorem YY:zU Go.Proofs.Tryz.prog 109 1=some 1:=by kernel_rfl
theorem Wk:zU Go.Proofs.Tryz.prog 146 0=some 0:=by kernel_rfl
theorem JA:zU Go.Proofs.Tryz.prog 146 1=some 1:=by kernel_rfl
theorem qK:zU Go.Proofs.Tryz.prog 24 0=some 0:=by kernel_rfl
theorem Vy:zU Go.Proofs.Tryz.prog 24 1=some 1:=by kernel_rfl
theorem XV:zU Go.Proofs.Tryz.prog 24 2=some 2:=by kernel_rfl
theorem UU:zU Go.Proofs.Tryz.prog 24 3=some 3:=by kernel_rfl
theorem KAc:ifB Go.Proofs.Tryz.prog 111=true:=by kernel_rfl
theorem KJX:niB Go.Proofs.Tryz.prog 142=true:=by kernel_rfl
theorem KGA:niB Go.Proofs.Tryz.prog 225=true:=by kernel_rfl
theorem KGB:niB Go.Proofs.Tryz.prog 228=true:=by kernel_rfl
theorem KJY:GC Go.Proofs.Tryz.prog 142=some [(0,1)]:=by kernel_rfl
theorem pl24:GC Go.Proofs.Tryz.prog 24=some [(0,1),(1,1),(2,1),(3,1)]:=by kernel_rfl
theorem KJZ:GC Go.Proofs.Tryz.prog 249=some [(0,1),(1,1),(2,1)]:=by kernel_rfl
theorem KJa:scB Go.Proofs.Tryz.prog 111=true:=by kernel_rfl
theorem KJb:scB Go.Proofs.Tryz.prog 154=true:=by kernel_rfl
theorem sc2:scB Go.Proofs.Tryz.prog 2=true:=by kernel_rfl
theorem sc22:scB Go.Proofs.Tryz.prog 22=true:=by kernel_rfl
theorem sc3:scB Go.Proofs.Tryz.prog 3=true:=by kernel_rfl
theorem sc35:scB Go.Proofs.Tryz.prog 35=true:=by kernel_rfl
theorem sc5:scB Go.Proofs.Tryz.prog 5=true:=by kernel_rfl
theorem sc89:scB Go.Proofs.Tryz.prog 89=true:=by kernel_rfl
theorem sc9:scB Go.Proofs.Tryz.prog 9=true:=by kernel_rfl
theorem KJc:szB Go.Proofs.Tryz.prog 154 1=true:=by kernel_rfl
theorem sz2:szB Go.Proofs.Tryz.prog 2 1=true:=by kernel_rfl
theorem sz22:szB Go.Proofs.Tryz.prog 22 1=true:=by kernel_rfl
theorem sz24:szB Go.Proofs.Tryz.prog 24 4=true:=by kernel_rfl
theorem sz3:szB Go.Proofs.Tryz.prog 3 1=true:=by kernel_rfl
theorem sz35:szB Go.Proofs.Tryz.prog 35 1=true:=by kernel_rfl
theorem sz5:szB Go.Proofs.Tryz.prog 5 1=true:=by kernel_rfl
theorem sz89:szB Go.Proofs.Tryz.prog 89 1=true:=by kernel_rfl
theorem sz9:szB Go.Proofs.Tryz.prog 9 1=true:=by kernel_rfl
end Gx
namespace Gx
open Go
def VM (x0:Sl) (x1:Int):M Unit:=M.fail
theorem YA (x0:Sl) (x1:Int):ZK Go.Proofs.Tryz.prog 229 #[(x0:Sl).v,.int .u64 x1] (fun (r:Unit)=>.tuple #[]) (VM x0 x1):=fun w Q H=>H.elim
end Gx
namespace Gx
open Go Go.Proofs Go.Shelf Go.Sort Go.RowKit
set_option linter.unusedVariables false
set_option linter.unusedSimpArgs false
set_option maxRecDepth 100000
def KAd:Go.Shelf.Ren:=⟨fun | 125=>167 | 128=>216 | 129=>217 | 213=>127 | 217=>194 | 219=>155 | 224=>196 | 225=>195 | 240=>150 | 246=>198 | 247=>201 | 265=>168 | 266=>225 | 267=>197 | 276=>184 | 283=>227 | 284=>228 | 285=>229 | 286=>230 | 287=>231 | 314=>226 | 317=>247 | 318=>248 | 319=>249 | 320=>250 | 321=>251 | 322=>252 | 337=>258 | 338=>259 | n=>n,fun | 0=>0 | 2=>2 | 3=>3 | 4=>4 | 5=>5 | 9=>9 | 20=>20 | 21=>21 | 37=>35 | 46=>184 | 51=>215 | 53=>154 | 70=>107 | 72=>109 | 75=>111 | 80=>115 | 146=>218 | 164=>194 | 167=>225 | 171=>221 | 173=>223 | 175=>226 | 212=>245 | 213=>246 | 232=>258 | 233=>259 | n=>n,fun | 1=>0 | 17=>3 | 18=>6 | 19=>7 | n=>n⟩
theorem KBH:Lays.n213 Go.Proofs.Tryz.prog KAd:={
 mixed:=by kernel_rfl
 f213:=Tryz.func127.trans (congrArg some (by kernel_rfl))
 f265:=Tryz.func168.trans (congrArg some (by kernel_rfl))
 t3:=Tryz.underlying3
 a3:=Tryz.isAgg3
 z3:=Tryz.sizeOf3
 v3:=Tryz.zeroValue3
 t9:=Tryz.underlying9
 a9:=Tryz.isAgg9
 z9:=Tryz.sizeOf9
 v9:=Tryz.zeroValue9 }
theorem KBI:Lays.n217 Go.Proofs.Tryz.prog KAd:={
 mixed:=by kernel_rfl
 f217:=Tryz.func194.trans (congrArg some (by kernel_rfl))
 f266:=Tryz.func225.trans (congrArg some (by kernel_rfl))
 t3:=Tryz.underlying3
 a3:=Tryz.isAgg3
 z3:=Tryz.sizeOf3
 v3:=Tryz.zeroValue3
 t5:=Tryz.underlying5
 a5:=Tryz.isAgg5
 z5:=Tryz.sizeOf5
 v5:=Tryz.zeroValue5
 t9:=Tryz.underlying9
 a9:=Tryz.isAgg9
 z9:=Tryz.sizeOf9
 v9:=Tryz.zeroValue9 }
theorem KAL:LaysC.n247 Go.Proofs.Tryz.prog KAd:={
 mixed:=by kernel_rfl
 f247:=Tryz.func201.trans (congrArg some (by kernel_rfl))
 f287:=Tryz.func231.trans (congrArg some (by kernel_rfl))
 f321:=Tryz.func251.trans (congrArg some (by kernel_rfl))
 f322:=Tryz.func252.trans (congrArg some (by kernel_rfl))
 t0:=Tryz.underlying0
 a0:=Tryz.isAgg0
 z0:=Tryz.sizeOf0
 v0:=Tryz.zeroValue0
 t2:=Tryz.underlying2
 a2:=Tryz.isAgg2
 z2:=Tryz.sizeOf2
 v2:=Tryz.zeroValue2
 t3:=Tryz.underlying3
 a3:=Tryz.isAgg3
 z3:=Tryz.sizeOf3
 v3:=Tryz.zeroValue3
 t4:=Tryz.underlying4
 a4:=Tryz.isAgg4
 z4:=Tryz.sizeOf4
 v4:=Tryz.zeroValue4
 t5:=Tryz.underlying5
 a5:=Tryz.isAgg5
 z5:=Tryz.sizeOf5
 v5:=Tryz.zeroValue5
 t9:=Tryz.underlying9
 a9:=Tryz.isAgg9
 z9:=Tryz.sizeOf9
 v9:=Tryz.zeroValue9
 t21:=Tryz.underlying21
 a21:=Tryz.isAgg21
 z21:=Tryz.sizeOf21
 v21:=Tryz.zeroValue21
 t37:=Tryz.underlying35
 a37:=Tryz.isAgg35
 z37:=Tryz.sizeOf35
 v37:=Tryz.zeroValue35
 t46:=Tryz.underlying184
 a46:=Tryz.isAgg184
 z46:=Tryz.sizeOf184
 v46:=Tryz.zeroValue184
 t53:=Tryz.underlying154
 a53:=Tryz.isAgg154
 z53:=Tryz.sizeOf154
 v53:=Tryz.zeroValue154
 t75:=Tryz.underlying111
 a75:=Tryz.isAgg111
 z75:=Tryz.sizeOf111
 v75:=Tryz.zeroValue111
 t167:=Tryz.underlying225
 a167:=Tryz.isAgg225
 z167:=Tryz.sizeOf225
 v167:=Tryz.zeroValue225
 t175:=Tryz.underlying226
 a175:=Tryz.isAgg226
 z175:=Tryz.sizeOf226
 v175:=Tryz.zeroValue226
 t80:=Tryz.underlying115
 a80:=Tryz.isAgg115
 z80:=Tryz.sizeOf115
 v80:=Tryz.zeroValue115
 i0:=by kernel_rfl
 i2:=by kernel_rfl
 i3:=by kernel_rfl
 i4:=by kernel_rfl
 i5:=by kernel_rfl
 i9:=by kernel_rfl
 i21:=by kernel_rfl
 i37:=by kernel_rfl
 i46:=by kernel_rfl
 i53:=by kernel_rfl
 i75:=by kernel_rfl
 i80:=by kernel_rfl
 i167:=by kernel_rfl
 i175:=by kernel_rfl
 c0:=by kernel_rfl
 c2:=by kernel_rfl
 c3:=by kernel_rfl
 c4:=by kernel_rfl
 c5:=by kernel_rfl
 c9:=by kernel_rfl
 c21:=by kernel_rfl
 c37:=by kernel_rfl
 c46:=by kernel_rfl
 c53:=by kernel_rfl
 c75:=by kernel_rfl
 c80:=by kernel_rfl
 c167:=by kernel_rfl
 c175:=by kernel_rfl }
theorem qL:Lays.n240 Go.Proofs.Tryz.prog KAd:={
 mixed:=by kernel_rfl
 f240:=Tryz.func150.trans (congrArg some (by kernel_rfl))
 f276:=Tryz.func184.trans (congrArg some (by kernel_rfl))
 t0:=Tryz.underlying0
 a0:=Tryz.isAgg0
 z0:=Tryz.sizeOf0
 v0:=Tryz.zeroValue0
 t4:=Tryz.underlying4
 a4:=Tryz.isAgg4
 z4:=Tryz.sizeOf4
 v4:=Tryz.zeroValue4
 t9:=Tryz.underlying9
 a9:=Tryz.isAgg9
 z9:=Tryz.sizeOf9
 v9:=Tryz.zeroValue9
 t20:=Tryz.underlying20
 a20:=Tryz.isAgg20
 z20:=Tryz.sizeOf20
 v20:=Tryz.zeroValue20
 t70:=Tryz.underlying107
 a70:=Tryz.isAgg107
 z70:=Tryz.sizeOf107
 v70:=Tryz.zeroValue107
 t72:=Tryz.underlying109
 a72:=Tryz.isAgg109
 z72:=Tryz.sizeOf109
 v72:=Tryz.zeroValue109
 t164:=Tryz.underlying194
 a164:=Tryz.isAgg194
 z164:=Tryz.sizeOf194
 v164:=Tryz.zeroValue194 }
theorem KAM:LaysM.n246 Go.Proofs.Tryz.prog KAd:={
 mixed:=by kernel_rfl
 f129:=Tryz.func217.trans (congrArg some (by kernel_rfl))
 f246:=Tryz.func198.trans (congrArg some (by kernel_rfl))
 f283:=Tryz.func227.trans (congrArg some (by kernel_rfl))
 f284:=Tryz.func228.trans (congrArg some (by kernel_rfl))
 f285:=Tryz.func229.trans (congrArg some (by kernel_rfl))
 f286:=Tryz.func230.trans (congrArg some (by kernel_rfl))
 f317:=Tryz.func247.trans (congrArg some (by kernel_rfl))
 f318:=Tryz.func248.trans (congrArg some (by kernel_rfl))
 f319:=Tryz.func249.trans (congrArg some (by kernel_rfl))
 f320:=Tryz.func250.trans (congrArg some (by kernel_rfl))
 f337:=Tryz.func258.trans (congrArg some (by kernel_rfl))
 f338:=Tryz.func259.trans (congrArg some (by kernel_rfl))
 t0:=Tryz.underlying0
 a0:=Tryz.isAgg0
 z0:=Tryz.sizeOf0
 v0:=Tryz.zeroValue0
 t2:=Tryz.underlying2
 a2:=Tryz.isAgg2
 z2:=Tryz.sizeOf2
 v2:=Tryz.zeroValue2
 t3:=Tryz.underlying3
 a3:=Tryz.isAgg3
 z3:=Tryz.sizeOf3
 v3:=Tryz.zeroValue3
 t4:=Tryz.underlying4
 a4:=Tryz.isAgg4
 z4:=Tryz.sizeOf4
 v4:=Tryz.zeroValue4
 t5:=Tryz.underlying5
 a5:=Tryz.isAgg5
 z5:=Tryz.sizeOf5
 v5:=Tryz.zeroValue5
 t9:=Tryz.underlying9
 a9:=Tryz.isAgg9
 z9:=Tryz.sizeOf9
 v9:=Tryz.zeroValue9
 t20:=Tryz.underlying20
 a20:=Tryz.isAgg20
 z20:=Tryz.sizeOf20
 v20:=Tryz.zeroValue20
 t37:=Tryz.underlying35
 a37:=Tryz.isAgg35
 z37:=Tryz.sizeOf35
 v37:=Tryz.zeroValue35
 t46:=Tryz.underlying184
 a46:=Tryz.isAgg184
 z46:=Tryz.sizeOf184
 v46:=Tryz.zeroValue184
 t51:=Tryz.underlying215
 a51:=Tryz.isAgg215
 z51:=Tryz.sizeOf215
 v51:=Tryz.zeroValue215
 t53:=Tryz.underlying154
 a53:=Tryz.isAgg154
 z53:=Tryz.sizeOf154
 v53:=Tryz.zeroValue154
 t171:=Tryz.underlying221
 a171:=Tryz.isAgg221
 z171:=Tryz.sizeOf221
 v171:=Tryz.zeroValue221
 t173:=Tryz.underlying223
 a173:=Tryz.isAgg223
 z173:=Tryz.sizeOf223
 v173:=Tryz.zeroValue223
 t212:=Tryz.underlying245
 a212:=Tryz.isAgg245
 z212:=Tryz.sizeOf245
 v212:=Tryz.zeroValue245
 t213:=Tryz.underlying246
 a213:=Tryz.isAgg246
 z213:=Tryz.sizeOf246
 t232:=Tryz.underlying258
 a232:=Tryz.isAgg258
 z232:=Tryz.sizeOf258
 v232:=Tryz.zeroValue258
 t233:=Tryz.underlying259
 a233:=Tryz.isAgg259
 z233:=Tryz.sizeOf259
 v233:=Tryz.zeroValue259
 g17:=by kernel_rfl
 g18:=by kernel_rfl
 g19:=by kernel_rfl
 i0:=by kernel_rfl
 i2:=by kernel_rfl
 i3:=by kernel_rfl
 i4:=by kernel_rfl
 i5:=by kernel_rfl
 i9:=by kernel_rfl
 i20:=by kernel_rfl
 i37:=by kernel_rfl
 i46:=by kernel_rfl
 i51:=by kernel_rfl
 i53:=by kernel_rfl
 i171:=by kernel_rfl
 i173:=by kernel_rfl
 i212:=by kernel_rfl
 i232:=by kernel_rfl
 i233:=by kernel_rfl
 m17:=by kernel_rfl
 m18:=by kernel_rfl
 m19:=by kernel_rfl }
def UK (x0 x1:ByteArray):M Int:=M.pure (Lib.compareBytes x0.data.toList x1.data.toList)
theorem Wx (x0 x1:ByteArray):ZK Go.Proofs.Tryz.prog 127 #[.string x0,.string x1] (fun (r:Int)=>.int .i64 r) (UK x0 x1):=by
 intro w Q H
 refine (Any.bytealg_CompareString KBH x0 x1 w).mono ?_
 rintro e w' ⟨rfl,rfl⟩
 exact ⟨_,rfl,H,Rest.refl _⟩
def UL (x0:ByteArray) (x1:Int):M Int:=M.pure (Lib.indexByte x0.data.toList x1.toNat.toUInt8)
theorem Wy (x0:ByteArray) (x1:Int):ZK Go.Proofs.Tryz.prog 194 #[.string x0,.int .u8 x1] (fun (r:Int)=>.int .i64 r) (UL x0 x1):=by
 intro w Q H
 refine (Any.stringslite_IndexByte KBI x0 x1 w).mono ?_
 rintro e w' ⟨rfl,rfl⟩
 exact ⟨_,rfl,H,Rest.refl _⟩
def WG (x0:ByteArray) (x1:Int) (x2:Int):M (Int × Value) :=
 ⟨fun h Q=>x1=10∧x2=64∧x0.size≤9223372036854775806∧∀ h':Heap,h.size≤h'.size→(∀ i,i < h.size→h'[i]?=h[i]?)→(match Lib.parseIntB 64 x0.data.toList with | .ok v=>Q (v,.nilIface) h' | .range=>Q (Lib.intSat 64 x0.data.toList,.iface 225 (.int .i64 1)) h' | _=>Q (0,.iface 225 (.int .i64 2)) h'),
  fun hq ⟨h0,h1,h2,h3⟩=>⟨h0,h1,h2,fun h' a b=>by have h5:=h3 h' a b; revert h5; cases Lib.parseIntB 64 x0.data.toList <;> exact fun h5=>hq _ _ h5⟩⟩
theorem Y6 (x0:ByteArray) (x1:Int) (x2:Int):ZK Go.Proofs.Tryz.prog 201 #[.string x0,.int .i64 x1,.int .i64 x2] (fun (r:Int × Value)=>.tuple #[.int .i64 r.1,r.2]) (WG x0 x1 x2):=by
 intro w Q ⟨h0,h1,h2,h4⟩
 subst h0
 subst h1
 refine (Any.internal_strconv_ParseInt_10_all64 KAL x0 h2 w).mono ?_
 rintro e w' ⟨rfl,hw⟩
 have hb:w.heap.size≤w'.heap.size∧(∀ i,i < w.heap.size→w'.heap[i]?=w.heap[i]?)∧Rest w w':=by
  rcases hw with rfl | ⟨t,rfl⟩
  ·exact ⟨Nat.le_refl _,fun _ _=>rfl,Rest.refl _⟩
  ·have hb:=Lib.bytesWorld_below w (5) t
   exact ⟨hb.size,hb.block,⟨hb.os,hb.output,hb.tape,Nat.le_succ w.drawn⟩⟩
 obtain ⟨b1,b2,b3⟩:=hb
 have h5:=h4 _ b1 b2
 cases hp:Lib.parseIntB 64 x0.data.toList <;> (rw [hp] at h5; exact ⟨_,rfl,h5,b3⟩)
def Y7 (x0:ByteArray) (x1:ByteArray):M (Option Addr):=M.fail
theorem Gr (x0:ByteArray) (x1:ByteArray):ZK Go.Proofs.Tryz.prog 232 #[.string x0,.string x1] (fun (r:Option Addr)=>.pointer r) (Y7 x0 x1):=fun w Q H=>H.elim
def Xp (x0:ByteArray) (x1:ByteArray) (x2:Int):M (Option Addr):=M.fail
theorem No (x0:ByteArray) (x1:ByteArray) (x2:Int):ZK Go.Proofs.Tryz.prog 234 #[.string x0,.string x1,.int .i64 x2] (fun (r:Option Addr)=>.pointer r) (Xp x0 x1 x2):=fun w Q H=>H.elim
def Yg (x0:ByteArray) (x1:ByteArray) (x2:Int):M (Option Addr):=M.fail
theorem GZ (x0:ByteArray) (x1:ByteArray) (x2:Int):ZK Go.Proofs.Tryz.prog 235 #[.string x0,.string x1,.int .i64 x2] (fun (r:Option Addr)=>.pointer r) (Yg x0 x1 x2):=fun w Q H=>H.elim
theorem KEQ:Builder.X72 Go.Proofs.Tryz.prog KAd:={ sizeBuilder:=by kernel_rfl,liesBuilder:=by kernel_rfl }
def Jh (x0:Option Addr):M Unit :=
 ⟨fun h Q=>∃ b p v,x0=some ⟨b,0,none⟩∧h[b]?=some (.cells #[p,v] 109 (0,0))∧((p=.pointer (some ⟨b,0,none⟩)∧Q () h)∨(p=.pointer none∧Q () (hset h ⟨b,0,none⟩ (.pointer (some ⟨b,0,none⟩))))),
  fun hq ⟨b,p,v,h1,h2,h3⟩=>⟨b,p,v,h1,h2,h3.imp (fun ⟨a,c⟩=>⟨a,hq _ _ c⟩) (fun ⟨a,c⟩=>⟨a,hq _ _ c⟩)⟩⟩
theorem Ug (x0:Option Addr):ZK Go.Proofs.Tryz.prog 150 #[.pointer x0] (fun (r:Unit)=>.tuple #[]) (Jh x0):=by
 intro w Q ⟨b,p,v,h1,h2,h3⟩
 subst h1
 have hc:w.cell? ⟨b,0,none⟩=some p:=by rw [KAU]; simp [KV,h2]
 rcases h3 with ⟨rfl,hq⟩ | ⟨rfl,hq⟩
 ·refine (Any.Builder_copyCheck_used qL KEQ b w hc).mono ?_
  rintro e w' ⟨rfl,rfl⟩
  exact ⟨(),rfl,hq,Rest.refl _⟩
 ·refine (Any.Builder_copyCheck_fresh qL KEQ b w hc (by simp [World.shape?,h2]; rfl) (by simp [World.frozen?,h2])).mono ?_
  rintro e w' ⟨rfl,rfl⟩
  exact ⟨(),rfl,hq,⟨rfl,rfl,rfl,Nat.le_refl _⟩⟩
def NV (h:Heap):Prop:=∃ fz ty,h[3]?=some (.cells (Lib.pow10Tab.map fun z=>Value.int .u64 z).toArray ty fz)
def zk (x0:Int):M ByteArray :=
 ⟨fun h Q=>-9223372036854775808≤x0∧x0≤9223372036854775807∧NV h∧∀ h':Heap,h.size≤h'.size→(∀ i,i < h.size→h'[i]?=h[i]?)→Q ⟨(Lib.itoa x0).toArray⟩ h',
  fun hq ⟨h2,h3,h4,h5⟩=>⟨h2,h3,h4,fun h' a b=>hq _ _ (h5 h' a b)⟩⟩
theorem qj (x0:Int):ZK Go.Proofs.Tryz.prog 198 #[.int .i64 x0,.int .i64 10] (fun (r:ByteArray)=>.string r) (zk x0):=by
 intro w Q ⟨h2,h3,⟨fz,ty,h4⟩,h5⟩
 refine (Any.internal_strconv_FormatInt_10 KAM x0 h2 h3 w ?_).mono ?_
 ·show w.var? Go.Proofs.Tryz.prog _=_
  have hg:Go.Proofs.Tryz.prog.globalNamed "internal/strconv.uint64pow10"=some 3:=by kernel_rfl
  simp only [World.var?,hg,Option.bind_some,h4]
 ·rintro e w' ⟨rfl,k,os,rfl⟩
  refine ⟨_,rfl,h5 _ ?_ ?_,⟨rfl,rfl,rfl,Nat.le_add_right _ _⟩⟩
  ·show w.heap.size≤(w.heap++os).size
   simp
  ·intro i hi
   show (w.heap++os)[i]?=_
   rw [Array.getElem?_append_left hi]
def zl (h:Heap):Prop:=∃ cs ty fz,h[7]?=some (.cells cs ty fz)∧cs[15]?=some (.int .u8 4)
end Gx
namespace Gx
open Go
set_option linter.unusedVariables false
set_option maxRecDepth 100000
def Yn (C6:Int) (C7:Sl) (C8:Int) (self1:(Int)→M (Int)):(Int)→M (Int):=fun s=>match s with
 | Xx5=>do
  M.ite (decide (Xx5 < C8)) (do
   let Xx14←ixL C7 Xx5 1
   let Xx15←ldI .i64 Xx14
   M.ite (Xx15 != C6) (do
    M.pure Xx15
    ) (do
    self1 (IntKind.wrap .i64 (Xx5+1))
    )
   ) (do
   M.pure C6
   )
def Xq (x0:Sl):M (Int):=do
 M.loop (Yn 0 x0 (x0.len:Int)) 0
theorem KBn (x0:Sl):ZK Go.Proofs.Tryz.prog 69 #[(x0:Sl).v] (fun (r:Int)=>.int .i64 r) (Xq x0):=by
 refine KY [(0,(x0:Sl).v)] Go.Proofs.Tryz.func69 rfl rfl (Nat.le_of_ble_eq_true rfl) (Ke ⟨rfl,trivial⟩) (fun w0 w Q R a hret hE hR H=>?_)
 unfold Xq at H
 refine KH (fun K hK_1=>?_)
 refine KC ?_
 refine KB (v:=.int .i64 0) rfl rfl hE rfl (KE hE rfl) (fun a hE=>?_)
 refine KG ?_
 refine hK_1 _ _ ?_
 refine KH (fun K hK_2=>?_)
 refine KC ?_
 refine KB (v:=.int .i64 0) rfl rfl hE rfl (KE hE rfl) (fun a hE=>?_)
 refine KG ?_
 refine hK_2 _ _ ?_
 refine KH (fun K hK_3=>?_)
 refine KH (fun K hK_4=>?_)
 refine KC ?_
 refine KB (v:=(x0:Sl).v) rfl rfl hE rfl (KD hE rfl) (fun a hE=>?_)
 refine KB (v:=.int .i64 (x0.len:Int)) rfl rfl hE rfl (UA hE rfl 3 KHj) (fun a hE=>?_)
 refine KB (v:=.int .i64 0) rfl rfl hE rfl (KD hE rfl) (fun a hE=>?_)
 refine KG ?_
 refine hK_4 _ _ ?_
 refine Kj ?_
 refine J7 (fun (s:Int)=>(⟨18,[]⟩:Frm)) (fun (s:Int)=>[(3,.int .i64 0),(6,(x0:Sl).v),(7,.int .i64 (x0.len:Int)),(8,.int .i64 s)]) H (hE.cut (.cons rfl (.cons rfl (.cons rfl (.cons rfl Subs.nil))))) hR (fun Y self1 hY_9 Xx5 a w hE hR H=>?_)
 replace hE:Env (⟨18,[]⟩:Frm) a [(3,.int .i64 0),(6,(x0:Sl).v),(7,.int .i64 (x0.len:Int)),(8,.int .i64 Xx5)]:=hE
 replace H:(Yn 0 x0 (x0.len:Int) self1 Xx5).wp w.heap Q:=H
 unfold Yn at H
 refine KH (fun K hK_10=>?_)
 refine KC ?_
 refine KB (v:=.bool (decide (Xx5 < (x0.len:Int)))) rfl rfl hE rfl (KL hE rfl rfl KN JL) (fun a hE=>?_)
 refine KG ?_
 refine hK_10 _ _ ?_
 refine KH (fun K hK_11=>?_)
 refine KS (decide (Xx5 < (x0.len:Int))) hE rfl (fun hb=>?_) (fun hb=>?_)
 ·replace H:=M.ite_t hb H
  refine Ka ?_
  refine hK_11 _ _ ?_
  refine KH (fun K hK_12=>?_)
  refine Kj ?_
  refine KH (fun K hK_13=>?_)
  refine KC ?_
  obtain ⟨Xx14,qXx14,H⟩:=H
  refine KB (v:=.pointer (some Xx14)) rfl rfl hE rfl (KR hE rfl rfl KHj sz3 qXx14) (fun a hE=>?_)
  obtain ⟨Xx15,qXx15,H⟩:=H
  refine KB (v:=.int .i64 Xx15) rfl rfl hE rfl (KU hE rfl sc3 qXx15) (fun a hE=>?_)
  refine KB (v:=.int .i64 Xx15) rfl rfl hE rfl (KE hE rfl) (fun a hE=>?_)
  refine KG ?_
  refine hK_13 _ _ ?_
  refine KH (fun K hK_16=>?_)
  refine KC ?_
  refine KB (v:=.int .i64 Xx15) rfl rfl hE rfl (KD hE rfl) (fun a hE=>?_)
  refine KB (v:=.int .i64 0) rfl rfl hE rfl (KD hE rfl) (fun a hE=>?_)
  refine KB (v:=.bool (Xx15 != 0)) rfl rfl hE rfl (KL hE rfl rfl KN Yi) (fun a hE=>?_)
  refine KG ?_
  refine hK_16 _ _ ?_
  refine KS (Xx15 != 0) hE rfl (fun hb=>?_) (fun hb=>?_)
  ·replace H:=M.ite_t hb H
   refine KH (fun K hK_17=>?_)
   refine KC ?_
   refine KB (v:=.int .i64 Xx15) rfl rfl hE rfl (KD hE rfl) (fun a hE=>?_)
   refine KB (v:=.int .i64 Xx15) rfl rfl hE rfl (KE hE rfl) (fun a hE=>?_)
   refine KG ?_
   refine hK_17 _ _ ?_
   refine Kg ?_
   exact hret _ _ _ Xx15 _ hE hR (KM hE rfl (RV.tmp rfl RV.nil)) rfl H
  ·replace H:=M.ite_f hb H
   refine Ka ?_
   refine hK_12 _ _ ?_
   refine KC ?_
   refine KB (v:=.int .i64 (IntKind.wrap .i64 (Xx5+1))) rfl rfl hE rfl (KL hE rfl rfl KN JE) (fun a hE=>?_)
   refine KB (v:=.int .i64 (IntKind.wrap .i64 (Xx5+1))) rfl rfl hE rfl (KD hE rfl) (fun a hE=>?_)
   refine KG ?_
   exact hY_9 (IntKind.wrap .i64 (Xx5+1)) _ _ (hE.cut (.cons rfl (.cons rfl (.cons rfl (.cons rfl Subs.nil))))) hR H
 ·replace H:=M.ite_f hb H
  refine J6 ?_
  refine Xu.same ?_
  refine hK_3 _ _ ?_
  refine KH (fun K hK_18=>?_)
  refine KC ?_
  refine KB (v:=.int .i64 0) rfl rfl hE rfl (KD hE rfl) (fun a hE=>?_)
  refine KB (v:=.int .i64 0) rfl rfl hE rfl (KE hE rfl) (fun a hE=>?_)
  refine KG ?_
  refine hK_18 _ _ ?_
  refine Kg ?_
  exact hret _ _ _ 0 _ hE hR (KM hE rfl (RV.tmp rfl RV.nil)) rfl H
def Wl (x0:Int):M (Bool):=do
 M.pure (x0 != x0)
theorem Gs (x0:Int):ZK Go.Proofs.Tryz.prog 125 #[.int .i64 x0] (fun (r:Bool)=>.bool r) (Wl x0):=by
 refine KY [(0,.int .i64 x0)] Go.Proofs.Tryz.func125 rfl rfl (Nat.le_of_ble_eq_true rfl) (Ke ⟨rfl,trivial⟩) (fun w0 w Q R a hret hE hR H=>?_)
 unfold Wl at H
 refine KH (fun K hK_1=>?_)
 refine KC ?_
 refine KB (v:=.bool false) rfl rfl hE rfl (KE hE rfl) (fun a hE=>?_)
 refine KG ?_
 refine hK_1 _ _ ?_
 refine KH (fun K hK_2=>?_)
 refine KC ?_
 refine KB (v:=.int .i64 x0) rfl rfl hE rfl (KD hE rfl) (fun a hE=>?_)
 refine KB (v:=.int .i64 x0) rfl rfl hE rfl (KD hE rfl) (fun a hE=>?_)
 refine KB (v:=.bool (x0 != x0)) rfl rfl hE rfl (KL hE rfl rfl KN Yi) (fun a hE=>?_)
 refine KB (v:=.bool (x0 != x0)) rfl rfl hE rfl (KE hE rfl) (fun a hE=>?_)
 refine KG ?_
 refine hK_2 _ _ ?_
 refine Kg ?_
 exact hret _ _ _ (x0 != x0) _ hE hR (KM hE rfl (RV.tmp rfl RV.nil)) rfl H
def Vk (x0:Int) (x1:Int):M (Int):=do
 let Xx3←Wl x0
 let Xx5←Wl x1
 M.ite Xx3 (do
  M.ite Xx5 (do
   M.pure 0
   ) (do
   M.pure (-1)
   )
  ) (do
  M.ite Xx5 (do
   M.pure 1
   ) (do
   M.ite (decide (x0 < x1)) (do
    M.pure (-1)
    ) (do
    M.ite (decide (x0 > x1)) (do
     M.pure 1
     ) (do
     M.pure 0
     )
    )
   )
  )
theorem qk (x0:Int) (x1:Int):ZK Go.Proofs.Tryz.prog 70 #[.int .i64 x0,.int .i64 x1] (fun (r:Int)=>.int .i64 r) (Vk x0 x1):=by
 refine KY [(0,.int .i64 x0),(1,.int .i64 x1)] Go.Proofs.Tryz.func70 rfl rfl (Nat.le_of_ble_eq_true rfl) (Ke ⟨rfl,rfl,trivial⟩) (fun w0 w Q R a hret hE hR H=>?_)
 unfold Vk at H
 refine KH (fun K hK_1=>?_)
 refine KC ?_
 refine KB (v:=.int .i64 0) rfl rfl hE rfl (KE hE rfl) (fun a hE=>?_)
 refine KG ?_
 refine hK_1 _ _ ?_
 refine KH (fun K hK_2=>?_)
 refine KC ?_
 refine KB (v:=.int .i64 x0) rfl rfl hE rfl (KD hE rfl) (fun a hE=>?_)
 refine KZ hE hR GT rfl (Gs x0) (M.unbind H) (fun Xx3 a w ea hR H=>?_)
 have hE:=Env.put_some hE rfl ea; clear ea
 refine KB (v:=.bool Xx3) rfl rfl hE rfl (KE hE rfl) (fun a hE=>?_)
 refine KG ?_
 refine hK_2 _ _ ?_
 refine KH (fun K hK_4=>?_)
 refine KC ?_
 refine KB (v:=.int .i64 x1) rfl rfl hE rfl (KD hE rfl) (fun a hE=>?_)
 refine KZ hE hR GT rfl (Gs x1) (M.unbind H) (fun Xx5 a w ea hR H=>?_)
 have hE:=Env.put_some hE rfl ea; clear ea
 refine KB (v:=.bool Xx5) rfl rfl hE rfl (KE hE rfl) (fun a hE=>?_)
 refine KG ?_
 refine hK_4 _ _ ?_
 refine KH (fun K hK_6=>?_)
 refine KH (fun K hK_7=>?_)
 refine KC ?_
 refine KB (v:=.bool Xx3) rfl rfl hE rfl (KD hE rfl) (fun a hE=>?_)
 refine KG ?_
 refine hK_7 _ _ ?_
 refine KS Xx3 hE rfl (fun hb=>?_) (fun hb=>?_)
 ·replace H:=M.ite_t hb H
  refine KH (fun K hK_8=>?_)
  refine KH (fun K hK_9=>?_)
  refine KC ?_
  refine KB (v:=.bool Xx5) rfl rfl hE rfl (KD hE rfl) (fun a hE=>?_)
  refine KG ?_
  refine hK_9 _ _ ?_
  refine KS Xx5 hE rfl (fun hb=>?_) (fun hb=>?_)
  ·replace H:=M.ite_t hb H
   refine KH (fun K hK_10=>?_)
   refine KC ?_
   refine KB (v:=.int .i64 0) rfl rfl hE rfl (KE hE rfl) (fun a hE=>?_)
   refine KG ?_
   refine hK_10 _ _ ?_
   refine Kg ?_
   exact hret _ _ _ 0 _ hE hR (KM hE rfl (RV.tmp rfl RV.nil)) rfl H
  ·replace H:=M.ite_f hb H
   refine Ka ?_
   refine hK_8 _ _ ?_
   refine KH (fun K hK_11=>?_)
   refine KC ?_
   refine KB (v:=.int .i64 (-1)) rfl rfl hE rfl (KE hE rfl) (fun a hE=>?_)
   refine KG ?_
   refine hK_11 _ _ ?_
   refine Kg ?_
   exact hret _ _ _ (-1) _ hE hR (KM hE rfl (RV.tmp rfl RV.nil)) rfl H
 ·replace H:=M.ite_f hb H
  refine Ka ?_
  refine hK_6 _ _ ?_
  refine KH (fun K hK_12=>?_)
  refine KH (fun K hK_13=>?_)
  refine KC ?_
  refine KB (v:=.bool Xx5) rfl rfl hE rfl (KD hE rfl) (fun a hE=>?_)
  refine KG ?_
  refine hK_13 _ _ ?_
  refine KS Xx5 hE rfl (fun hb=>?_) (fun hb=>?_)
  ·replace H:=M.ite_t hb H
   refine KH (fun K hK_14=>?_)
   refine KC ?_
   refine KB (v:=.int .i64 1) rfl rfl hE rfl (KE hE rfl) (fun a hE=>?_)
   refine KG ?_
   refine hK_14 _ _ ?_
   refine Kg ?_
   exact hret _ _ _ 1 _ hE hR (KM hE rfl (RV.tmp rfl RV.nil)) rfl H
  ·replace H:=M.ite_f hb H
   refine Ka ?_
   refine hK_12 _ _ ?_
   refine KH (fun K hK_15=>?_)
   refine KH (fun K hK_16=>?_)
   refine KC ?_
   refine KB (v:=.int .i64 x0) rfl rfl hE rfl (KD hE rfl) (fun a hE=>?_)
   refine KB (v:=.int .i64 x1) rfl rfl hE rfl (KD hE rfl) (fun a hE=>?_)
   refine KB (v:=.bool (decide (x0 < x1))) rfl rfl hE rfl (KL hE rfl rfl KN JL) (fun a hE=>?_)
   refine KG ?_
   refine hK_16 _ _ ?_
   refine KS (decide (x0 < x1)) hE rfl (fun hb=>?_) (fun hb=>?_)
   ·replace H:=M.ite_t hb H
    refine KH (fun K hK_17=>?_)
    refine KC ?_
    refine KB (v:=.int .i64 (-1)) rfl rfl hE rfl (KE hE rfl) (fun a hE=>?_)
    refine KG ?_
    refine hK_17 _ _ ?_
    refine Kg ?_
    exact hret _ _ _ (-1) _ hE hR (KM hE rfl (RV.tmp rfl RV.nil)) rfl H
   ·replace H:=M.ite_f hb H
    refine Ka ?_
    refine hK_15 _ _ ?_
    refine KH (fun K hK_18=>?_)
    refine KH (fun K hK_19=>?_)
    refine KC ?_
    refine KB (v:=.int .i64 x0) rfl rfl hE rfl (KD hE rfl) (fun a hE=>?_)
    refine KB (v:=.int .i64 x1) rfl rfl hE rfl (KD hE rfl) (fun a hE=>?_)
    refine KB (v:=.bool (decide (x0 > x1))) rfl rfl hE rfl (KL hE rfl rfl KN YI) (fun a hE=>?_)
    refine KG ?_
    refine hK_19 _ _ ?_
    refine KS (decide (x0 > x1)) hE rfl (fun hb=>?_) (fun hb=>?_)
    ·replace H:=M.ite_t hb H
     refine KH (fun K hK_20=>?_)
     refine KC ?_
     refine KB (v:=.int .i64 1) rfl rfl hE rfl (KE hE rfl) (fun a hE=>?_)
     refine KG ?_
     refine hK_20 _ _ ?_
     refine Kg ?_
     exact hret _ _ _ 1 _ hE hR (KM hE rfl (RV.tmp rfl RV.nil)) rfl H
    ·replace H:=M.ite_f hb H
     refine Ka ?_
     refine hK_18 _ _ ?_
     refine KH (fun K hK_21=>?_)
     refine KC ?_
     refine KB (v:=.int .i64 0) rfl rfl hE rfl (KE hE rfl) (fun a hE=>?_)
     refine KG ?_
     refine hK_21 _ _ ?_
     refine Kg ?_
     exact hret _ _ _ 0 _ hE hR (KM hE rfl (RV.tmp rfl RV.nil)) rfl H
def Vm (x0:Int):M (Bool):=do
 M.pure (x0 != x0)
theorem Xs (x0:Int):ZK Go.Proofs.Tryz.prog 126 #[.int .i64 x0] (fun (r:Bool)=>.bool r) (Vm x0):=by
 refine KY [(0,.int .i64 x0)] Go.Proofs.Tryz.func126 rfl rfl (Nat.le_of_ble_eq_true rfl) (Ke ⟨rfl,trivial⟩) (fun w0 w Q R a hret hE hR H=>?_)
 unfold Vm at H
 refine KH (fun K hK_1=>?_)
 refine KC ?_
 refine KB (v:=.bool false) rfl rfl hE rfl (KE hE rfl) (fun a hE=>?_)
 refine KG ?_
 refine hK_1 _ _ ?_
 refine KH (fun K hK_2=>?_)
 refine KC ?_
 refine KB (v:=.int .i64 x0) rfl rfl hE rfl (KD hE rfl) (fun a hE=>?_)
 refine KB (v:=.int .i64 x0) rfl rfl hE rfl (KD hE rfl) (fun a hE=>?_)
 refine KB (v:=.bool (x0 != x0)) rfl rfl hE rfl (KL hE rfl rfl KN Yi) (fun a hE=>?_)
 refine KB (v:=.bool (x0 != x0)) rfl rfl hE rfl (KE hE rfl) (fun a hE=>?_)
 refine KG ?_
 refine hK_2 _ _ ?_
 refine Kg ?_
 exact hret _ _ _ (x0 != x0) _ hE hR (KM hE rfl (RV.tmp rfl RV.nil)) rfl H
def U6 (x0:Int) (x1:Int):M (Int):=do
 let Xx3←Vm x0
 let Xx5←Vm x1
 M.ite Xx3 (do
  M.ite Xx5 (do
   M.pure 0
   ) (do
   M.pure (-1)
   )
  ) (do
  M.ite Xx5 (do
   M.pure 1
   ) (do
   M.ite (decide (x0 < x1)) (do
    M.pure (-1)
    ) (do
    M.ite (decide (x0 > x1)) (do
     M.pure 1
     ) (do
     M.pure 0
     )
    )
   )
  )
theorem Np (x0:Int) (x1:Int):ZK Go.Proofs.Tryz.prog 71 #[.int .i64 x0,.int .i64 x1] (fun (r:Int)=>.int .i64 r) (U6 x0 x1):=by
 refine KY [(0,.int .i64 x0),(1,.int .i64 x1)] Go.Proofs.Tryz.func71 rfl rfl (Nat.le_of_ble_eq_true rfl) (Ke ⟨rfl,rfl,trivial⟩) (fun w0 w Q R a hret hE hR H=>?_)
 unfold U6 at H
 refine KH (fun K hK_1=>?_)
 refine KC ?_
 refine KB (v:=.int .i64 0) rfl rfl hE rfl (KE hE rfl) (fun a hE=>?_)
 refine KG ?_
 refine hK_1 _ _ ?_
 refine KH (fun K hK_2=>?_)
 refine KC ?_
 refine KB (v:=.int .i64 x0) rfl rfl hE rfl (KD hE rfl) (fun a hE=>?_)
 refine KZ hE hR XR rfl (Xs x0) (M.unbind H) (fun Xx3 a w ea hR H=>?_)
 have hE:=Env.put_some hE rfl ea; clear ea
 refine KB (v:=.bool Xx3) rfl rfl hE rfl (KE hE rfl) (fun a hE=>?_)
 refine KG ?_
 refine hK_2 _ _ ?_
 refine KH (fun K hK_4=>?_)
 refine KC ?_
 refine KB (v:=.int .i64 x1) rfl rfl hE rfl (KD hE rfl) (fun a hE=>?_)
 refine KZ hE hR XR rfl (Xs x1) (M.unbind H) (fun Xx5 a w ea hR H=>?_)
 have hE:=Env.put_some hE rfl ea; clear ea
 refine KB (v:=.bool Xx5) rfl rfl hE rfl (KE hE rfl) (fun a hE=>?_)
 refine KG ?_
 refine hK_4 _ _ ?_
 refine KH (fun K hK_6=>?_)
 refine KH (fun K hK_7=>?_)
 refine KC ?_
 refine KB (v:=.bool Xx3) rfl rfl hE rfl (KD hE rfl) (fun a hE=>?_)
 refine KG ?_
 refine hK_7 _ _ ?_
 refine KS Xx3 hE rfl (fun hb=>?_) (fun hb=>?_)
 ·replace H:=M.ite_t hb H
  refine KH (fun K hK_8=>?_)
  refine KH (fun K hK_9=>?_)
  refine KC ?_
  refine KB (v:=.bool Xx5) rfl rfl hE rfl (KD hE rfl) (fun a hE=>?_)
  refine KG ?_
  refine hK_9 _ _ ?_
  refine KS Xx5 hE rfl (fun hb=>?_) (fun hb=>?_)
  ·replace H:=M.ite_t hb H
   refine KH (fun K hK_10=>?_)
   refine KC ?_
   refine KB (v:=.int .i64 0) rfl rfl hE rfl (KE hE rfl) (fun a hE=>?_)
   refine KG ?_
   refine hK_10 _ _ ?_
   refine Kg ?_
   exact hret _ _ _ 0 _ hE hR (KM hE rfl (RV.tmp rfl RV.nil)) rfl H
  ·replace H:=M.ite_f hb H
   refine Ka ?_
   refine hK_8 _ _ ?_
   refine KH (fun K hK_11=>?_)
   refine KC ?_
   refine KB (v:=.int .i64 (-1)) rfl rfl hE rfl (KE hE rfl) (fun a hE=>?_)
   refine KG ?_
   refine hK_11 _ _ ?_
   refine Kg ?_
   exact hret _ _ _ (-1) _ hE hR (KM hE rfl (RV.tmp rfl RV.nil)) rfl H
 ·replace H:=M.ite_f hb H
  refine Ka ?_
  refine hK_6 _ _ ?_
  refine KH (fun K hK_12=>?_)
  refine KH (fun K hK_13=>?_)
  refine KC ?_
  refine KB (v:=.bool Xx5) rfl rfl hE rfl (KD hE rfl) (fun a hE=>?_)
  refine KG ?_
  refine hK_13 _ _ ?_
  refine KS Xx5 hE rfl (fun hb=>?_) (fun hb=>?_)
  ·replace H:=M.ite_t hb H
   refine KH (fun K hK_14=>?_)
   refine KC ?_
   refine KB (v:=.int .i64 1) rfl rfl hE rfl (KE hE rfl) (fun a hE=>?_)
   refine KG ?_
   refine hK_14 _ _ ?_
   refine Kg ?_
   exact hret _ _ _ 1 _ hE hR (KM hE rfl (RV.tmp rfl RV.nil)) rfl H
  ·replace H:=M.ite_f hb H
   refine Ka ?_
   refine hK_12 _ _ ?_
   refine KH (fun K hK_15=>?_)
   refine KH (fun K hK_16=>?_)
   refine KC ?_
   refine KB (v:=.int .i64 x0) rfl rfl hE rfl (KD hE rfl) (fun a hE=>?_)
   refine KB (v:=.int .i64 x1) rfl rfl hE rfl (KD hE rfl) (fun a hE=>?_)
   refine KB (v:=.bool (decide (x0 < x1))) rfl rfl hE rfl (KL hE rfl rfl KN JL) (fun a hE=>?_)
   refine KG ?_
   refine hK_16 _ _ ?_
   refine KS (decide (x0 < x1)) hE rfl (fun hb=>?_) (fun hb=>?_)
   ·replace H:=M.ite_t hb H
    refine KH (fun K hK_17=>?_)
    refine KC ?_
    refine KB (v:=.int .i64 (-1)) rfl rfl hE rfl (KE hE rfl) (fun a hE=>?_)
    refine KG ?_
    refine hK_17 _ _ ?_
    refine Kg ?_
    exact hret _ _ _ (-1) _ hE hR (KM hE rfl (RV.tmp rfl RV.nil)) rfl H
   ·replace H:=M.ite_f hb H
    refine Ka ?_
    refine hK_15 _ _ ?_
    refine KH (fun K hK_18=>?_)
    refine KH (fun K hK_19=>?_)
    refine KC ?_
    refine KB (v:=.int .i64 x0) rfl rfl hE rfl (KD hE rfl) (fun a hE=>?_)
    refine KB (v:=.int .i64 x1) rfl rfl hE rfl (KD hE rfl) (fun a hE=>?_)
    refine KB (v:=.bool (decide (x0 > x1))) rfl rfl hE rfl (KL hE rfl rfl KN YI) (fun a hE=>?_)
    refine KG ?_
    refine hK_19 _ _ ?_
    refine KS (decide (x0 > x1)) hE rfl (fun hb=>?_) (fun hb=>?_)
    ·replace H:=M.ite_t hb H
     refine KH (fun K hK_20=>?_)
     refine KC ?_
     refine KB (v:=.int .i64 1) rfl rfl hE rfl (KE hE rfl) (fun a hE=>?_)
     refine KG ?_
     refine hK_20 _ _ ?_
     refine Kg ?_
     exact hret _ _ _ 1 _ hE hR (KM hE rfl (RV.tmp rfl RV.nil)) rfl H
    ·replace H:=M.ite_f hb H
     refine Ka ?_
     refine hK_18 _ _ ?_
     refine KH (fun K hK_21=>?_)
     refine KC ?_
     refine KB (v:=.int .i64 0) rfl rfl hE rfl (KE hE rfl) (fun a hE=>?_)
     refine KG ?_
     refine hK_21 _ _ ?_
     refine Kg ?_
     exact hret _ _ _ 0 _ hE hR (KM hE rfl (RV.tmp rfl RV.nil)) rfl H
def Wm (x0:ByteArray) (x1:ByteArray):M (Int):=do
 let Xx3←UK x0 x1
 M.pure Xx3
theorem ql (x0:ByteArray) (x1:ByteArray):ZK Go.Proofs.Tryz.prog 72 #[.string x0,.string x1] (fun (r:Int)=>.int .i64 r) (Wm x0 x1):=by
 refine KY [(0,.string x0),(1,.string x1)] Go.Proofs.Tryz.func72 rfl rfl (Nat.le_of_ble_eq_true rfl) (Ke ⟨rfl,rfl,trivial⟩) (fun w0 w Q R a hret hE hR H=>?_)
 unfold Wm at H
 refine KH (fun K hK_1=>?_)
 refine KC ?_
 refine KB (v:=.int .i64 0) rfl rfl hE rfl (KE hE rfl) (fun a hE=>?_)
 refine KG ?_
 refine hK_1 _ _ ?_
 refine KH (fun K hK_2=>?_)
 refine KC ?_
 refine KB (v:=.string x0) rfl rfl hE rfl (KD hE rfl) (fun a hE=>?_)
 refine KB (v:=.string x1) rfl rfl hE rfl (KD hE rfl) (fun a hE=>?_)
 refine KZ hE hR Wh rfl (Wx x0 x1) (M.unbind H) (fun Xx3 a w ea hR H=>?_)
 have hE:=Env.put_some hE rfl ea; clear ea
 refine KB (v:=.int .i64 Xx3) rfl rfl hE rfl (KE hE rfl) (fun a hE=>?_)
 refine KG ?_
 refine hK_2 _ _ ?_
 refine Kg ?_
 exact hret _ _ _ Xx3 _ hE hR (KM hE rfl (RV.tmp rfl RV.nil)) rfl H
def Kl (C5:Sl) (C6:Sl) (C7:Value) (C8:Sl) (C9:Int) (self1:(Int)→M (Int)):(Int)→M (Int):=fun s=>match s with
 | Xx4=>do
  M.ite (decide (Xx4 < C9)) (do
   let Xx15←ixL C8 Xx4 4
   let Xx16←ldG 4 Xx15
   let Xx17←mkB KJ (#[.int .i64 0,.int .i64 0,.string ByteArray.empty,.slice none 0 0]:Array Value)
   M.need (Xx16.size=4)
   stG Xx17 Xx16
   M.ite (decide (Xx4 ≥ (C6.len:Int))) (do
    M.pure 1
    ) (do
    let Xx23←ixL C6 Xx4 4
    let Xx24←ldG 4 Xx23
    let Xx25←mkB KJ (#[.int .i64 0,.int .i64 0,.string ByteArray.empty,.slice none 0 0]:Array Value)
    M.need (Xx24.size=4)
    stG Xx25 Xx24
    let Xx28←ldG 4 Xx17
    let Xx29←ldG 4 Xx25
    let Xx30←GV Go.Proofs.Tryz.prog (fun r:Int=>.int .i64 r) C7 [.agg Xx28,.agg Xx29]
    M.ite (Xx30 != 0) (do
     M.pure Xx30
     ) (do
     self1 (IntKind.wrap .i64 (Xx4+1))
     )
    )
   ) (do
   M.ite (decide ((C5.len:Int) < (C6.len:Int))) (do
    M.pure (-1)
    ) (do
    M.pure 0
    )
   )
def Kh (x0:Sl) (x1:Sl) (x2:Value):M (Int):=do
 M.loop (Kl x0 x1 x2 x0 (x0.len:Int)) 0
theorem Jq (x0:Sl) (x1:Sl) (x2:Value):ZK Go.Proofs.Tryz.prog 73 #[(x0:Sl).v,(x1:Sl).v,x2] (fun (r:Int)=>.int .i64 r) (Kh x0 x1 x2):=by
 refine KY [(0,(x0:Sl).v),(1,(x1:Sl).v),(2,x2)] Go.Proofs.Tryz.func73 rfl rfl (Nat.le_of_ble_eq_true rfl) (Ke ⟨rfl,rfl,rfl,trivial⟩) (fun w0 w Q R a hret hE hR H=>?_)
 unfold Kh at H
 refine KH (fun K hK_1=>?_)
 refine KC ?_
 refine KB (v:=.int .i64 0) rfl rfl hE rfl (KE hE rfl) (fun a hE=>?_)
 refine KG ?_
 refine hK_1 _ _ ?_
 refine KH (fun K hK_2=>?_)
 refine KH (fun K hK_3=>?_)
 refine KC ?_
 refine KB (v:=(x0:Sl).v) rfl rfl hE rfl (KD hE rfl) (fun a hE=>?_)
 refine KB (v:=.int .i64 (x0.len:Int)) rfl rfl hE rfl (UA hE rfl 24 un22) (fun a hE=>?_)
 refine KB (v:=.int .i64 0) rfl rfl hE rfl (KD hE rfl) (fun a hE=>?_)
 refine KG ?_
 refine hK_3 _ _ ?_
 refine Kj ?_
 refine J7 (fun (s:Int)=>(⟨39,[]⟩:Frm)) (fun (s:Int)=>[(0,(x0:Sl).v),(1,(x1:Sl).v),(2,x2),(11,(x0:Sl).v),(12,.int .i64 (x0.len:Int)),(13,.int .i64 s)]) H (hE.cut (.cons rfl (.cons rfl (.cons rfl (.cons rfl (.cons rfl (.cons rfl Subs.nil))))))) hR (fun Y self1 hY_10 Xx4 a w hE hR H=>?_)
 replace hE:Env (⟨39,[]⟩:Frm) a [(0,(x0:Sl).v),(1,(x1:Sl).v),(2,x2),(11,(x0:Sl).v),(12,.int .i64 (x0.len:Int)),(13,.int .i64 Xx4)]:=hE
 replace H:(Kl x0 x1 x2 x0 (x0.len:Int) self1 Xx4).wp w.heap Q:=H
 unfold Kl at H
 refine KH (fun K hK_11=>?_)
 refine KC ?_
 refine KB (v:=.bool (decide (Xx4 < (x0.len:Int)))) rfl rfl hE rfl (KL hE rfl rfl KN JL) (fun a hE=>?_)
 refine KG ?_
 refine hK_11 _ _ ?_
 refine KH (fun K hK_12=>?_)
 refine KS (decide (Xx4 < (x0.len:Int))) hE rfl (fun hb=>?_) (fun hb=>?_)
 ·replace H:=M.ite_t hb H
  refine Ka ?_
  refine hK_12 _ _ ?_
  refine KH (fun K hK_13=>?_)
  refine Kj ?_
  refine KH (fun K hK_14=>?_)
  refine KC ?_
  refine KB (v:=.int .i64 Xx4) rfl rfl hE rfl (KD hE rfl) (fun a hE=>?_)
  obtain ⟨Xx15,qXx15,H⟩:=H
  refine KB (v:=.pointer (some Xx15)) rfl rfl hE rfl (KR hE rfl rfl un22 sz24 qXx15) (fun a hE=>?_)
  obtain ⟨Xx16,qXx16,H⟩:=H
  refine KB (v:=.agg Xx16) rfl rfl hE rfl (ZN hE rfl ag24 qXx16) (fun a hE=>?_)
  obtain ⟨Xx17,qXx17,H⟩:=H
  refine ZR (v:=.pointer (some Xx17)) rfl rfl hE rfl hR (Z4 zr24 qXx17) (fun a w hE hR hh=>?_)
  replace H:=M.at hh H; clear hh
  refine KB (v:=.int .i64 Xx4) rfl rfl hE rfl (KE hE rfl) (fun a hE=>?_)
  obtain ⟨qz,H⟩:=H
  obtain ⟨u_18,qu_18,H⟩:=H
  refine JI rfl rfl hE hR (Kv hE rfl rfl sz24 qz qu_18) (fun a w hE hR hh=>?_)
  replace H:=M.at hh H; clear hh
  refine KG ?_
  refine hK_14 _ _ ?_
  refine KH (fun K hK_19=>?_)
  refine KH (fun K hK_20=>?_)
  refine KC ?_
  refine KB (v:=.int .i64 Xx4) rfl rfl hE rfl (KD hE rfl) (fun a hE=>?_)
  refine KB (v:=(x1:Sl).v) rfl rfl hE rfl (KD hE rfl) (fun a hE=>?_)
  refine KB (v:=.int .i64 (x1.len:Int)) rfl rfl hE rfl (UA hE rfl 24 un22) (fun a hE=>?_)
  refine KB (v:=.bool (decide (Xx4 ≥ (x1.len:Int)))) rfl rfl hE rfl (KL hE rfl rfl KN YJ) (fun a hE=>?_)
  refine KG ?_
  refine hK_20 _ _ ?_
  refine KS (decide (Xx4 ≥ (x1.len:Int))) hE rfl (fun hb=>?_) (fun hb=>?_)
  ·replace H:=M.ite_t hb H
   refine KH (fun K hK_21=>?_)
   refine KC ?_
   refine KB (v:=.int .i64 1) rfl rfl hE rfl (KE hE rfl) (fun a hE=>?_)
   refine KG ?_
   refine hK_21 _ _ ?_
   refine Kg ?_
   exact hret _ _ _ 1 _ hE hR (KM hE rfl (RV.tmp rfl RV.nil)) rfl H
  ·replace H:=M.ite_f hb H
   refine Ka ?_
   refine hK_19 _ _ ?_
   refine KH (fun K hK_22=>?_)
   refine KC ?_
   refine KB (v:=(x1:Sl).v) rfl rfl hE rfl (KD hE rfl) (fun a hE=>?_)
   refine KB (v:=.int .i64 Xx4) rfl rfl hE rfl (KD hE rfl) (fun a hE=>?_)
   obtain ⟨Xx23,qXx23,H⟩:=H
   refine KB (v:=.pointer (some Xx23)) rfl rfl hE rfl (KR hE rfl rfl un22 sz24 qXx23) (fun a hE=>?_)
   obtain ⟨Xx24,qXx24,H⟩:=H
   refine KB (v:=.agg Xx24) rfl rfl hE rfl (ZN hE rfl ag24 qXx24) (fun a hE=>?_)
   obtain ⟨Xx25,qXx25,H⟩:=H
   refine ZR (v:=.pointer (some Xx25)) rfl rfl hE rfl hR (Z4 zr24 qXx25) (fun a w hE hR hh=>?_)
   replace H:=M.at hh H; clear hh
   obtain ⟨qz,H⟩:=H
   obtain ⟨u_26,qu_26,H⟩:=H
   refine JI rfl rfl hE hR (Kv hE rfl rfl sz24 qz qu_26) (fun a w hE hR hh=>?_)
   replace H:=M.at hh H; clear hh
   refine KG ?_
   refine hK_22 _ _ ?_
   refine KH (fun K hK_27=>?_)
   refine KC ?_
   refine KB (v:=x2) rfl rfl hE rfl (KD hE rfl) (fun a hE=>?_)
   obtain ⟨Xx28,qXx28,H⟩:=H
   refine KB (v:=.agg Xx28) rfl rfl hE rfl (ZN hE rfl ag24 qXx28) (fun a hE=>?_)
   obtain ⟨Xx29,qXx29,H⟩:=H
   refine KB (v:=.agg Xx29) rfl rfl hE rfl (ZN hE rfl ag24 qXx29) (fun a hE=>?_)
   refine KA7 hE hR rfl rfl (M.unbind H) (fun Xx30 a w ea hR H=>?_)
   have hE:=Env.put_some hE rfl ea; clear ea
   refine KB (v:=.int .i64 Xx30) rfl rfl hE rfl (KE hE rfl) (fun a hE=>?_)
   refine KG ?_
   refine hK_27 _ _ ?_
   refine KH (fun K hK_31=>?_)
   refine KC ?_
   refine KB (v:=.int .i64 Xx30) rfl rfl hE rfl (KD hE rfl) (fun a hE=>?_)
   refine KB (v:=.bool (Xx30 != 0)) rfl rfl hE rfl (KL hE rfl rfl KN Yi) (fun a hE=>?_)
   refine KG ?_
   refine hK_31 _ _ ?_
   refine KS (Xx30 != 0) hE rfl (fun hb=>?_) (fun hb=>?_)
   ·replace H:=M.ite_t hb H
    refine KH (fun K hK_32=>?_)
    refine KC ?_
    refine KB (v:=.int .i64 Xx30) rfl rfl hE rfl (KD hE rfl) (fun a hE=>?_)
    refine KB (v:=.int .i64 Xx30) rfl rfl hE rfl (KE hE rfl) (fun a hE=>?_)
    refine KG ?_
    refine hK_32 _ _ ?_
    refine Kg ?_
    exact hret _ _ _ Xx30 _ hE hR (KM hE rfl (RV.tmp rfl RV.nil)) rfl H
   ·replace H:=M.ite_f hb H
    refine Ka ?_
    refine hK_13 _ _ ?_
    refine KC ?_
    refine KB (v:=.int .i64 (IntKind.wrap .i64 (Xx4+1))) rfl rfl hE rfl (KL hE rfl rfl KN JE) (fun a hE=>?_)
    refine KB (v:=.int .i64 (IntKind.wrap .i64 (Xx4+1))) rfl rfl hE rfl (KD hE rfl) (fun a hE=>?_)
    refine KG ?_
    exact hY_10 (IntKind.wrap .i64 (Xx4+1)) _ _ (hE.cut (.cons rfl (.cons rfl (.cons rfl (.cons rfl (.cons rfl (.cons rfl Subs.nil))))))) hR H
 ·replace H:=M.ite_f hb H
  refine J6 ?_
  refine Xu.same ?_
  refine hK_2 _ _ ?_
  refine KH (fun K hK_33=>?_)
  refine KH (fun K hK_34=>?_)
  refine KC ?_
  refine KB (v:=(x0:Sl).v) rfl rfl hE rfl (KD hE rfl) (fun a hE=>?_)
  refine KB (v:=.int .i64 (x0.len:Int)) rfl rfl hE rfl (UA hE rfl 24 un22) (fun a hE=>?_)
  refine KB (v:=(x1:Sl).v) rfl rfl hE rfl (KD hE rfl) (fun a hE=>?_)
  refine KB (v:=.int .i64 (x1.len:Int)) rfl rfl hE rfl (UA hE rfl 24 un22) (fun a hE=>?_)
  refine KB (v:=.bool (decide ((x0.len:Int) < (x1.len:Int)))) rfl rfl hE rfl (KL hE rfl rfl KN JL) (fun a hE=>?_)
  refine KG ?_
  refine hK_34 _ _ ?_
  refine KS (decide ((x0.len:Int) < (x1.len:Int))) hE rfl (fun hb=>?_) (fun hb=>?_)
  ·replace H:=M.ite_t hb H
   refine KH (fun K hK_35=>?_)
   refine KC ?_
   refine KB (v:=.int .i64 (-1)) rfl rfl hE rfl (KE hE rfl) (fun a hE=>?_)
   refine KG ?_
   refine hK_35 _ _ ?_
   refine Kg ?_
   exact hret _ _ _ (-1) _ hE hR (KM hE rfl (RV.tmp rfl RV.nil)) rfl H
  ·replace H:=M.ite_f hb H
   refine Ka ?_
   refine hK_33 _ _ ?_
   refine KH (fun K hK_36=>?_)
   refine KC ?_
   refine KB (v:=.int .i64 0) rfl rfl hE rfl (KE hE rfl) (fun a hE=>?_)
   refine KG ?_
   refine hK_36 _ _ ?_
   refine Kg ?_
   exact hret _ _ _ 0 _ hE hR (KM hE rfl (RV.tmp rfl RV.nil)) rfl H
noncomputable def KGx:Array Oper:=NZ Go.Proofs.Tryz.f13 1
def KGy:List (List Nat):=[[],[0],[],[2],[1,3],[],[5],[],[7],[6,8,4],[],[10],[],[12],[11,13,9],[],[15],[],[17],[16,18,14],[4,9,14,19],[20,19],[21,21,0,1,2,3,4,5,6,7,8,9,10,11,12,13,14,15,16,17,18,19,20,21]]
def KGz:List (List Nat):=[[],[0],[],[2],[1,3],[],[5],[],[7],[6,8],[],[10],[],[12],[11,13],[],[15],[],[17],[16,18],[4,9,14,19],[20],[21]]
def KG0:List (List Nat):=[[],[0],[],[2],[0,1,2,3],[],[5],[],[7],[0,1,2,3,4,5,6,7,8],[],[10],[],[12],[0,1,2,3,4,5,6,7,8,9,10,11,12,13],[],[15],[],[17],[0,1,2,3,4,5,6,7,8,9,10,11,12,13,14,15,16,17,18],[0,1,2,3,4,5,6,7,8,9,10,11,12,13,14,15,16,17,18,19],[0,1,2,3,4,5,6,7,8,9,10,11,12,13,14,15,16,17,18,19,20],[0,1,2,3,4,5,6,7,8,9,10,11,12,13,14,15,16,17,18,19,20,21]]
theorem KIh:Vg Go.Proofs.Tryz.f13 1 KGy KGz KG0=true:=by kernel_rfl
theorem KHk:Gi 23 KGy KGz KG0 [0,1,0,4,10,0,32,0,128,336,0,1024,0,4096,10752,0,32768,0,131072,344064,541200,1572864,4194303] [0,1,0,4,10,0,32,0,128,320,0,1024,0,4096,10240,0,32768,0,131072,327680,541200,1048576,2097152] [0,1,0,4,15,0,32,0,128,511,0,1024,0,4096,16383,0,32768,0,131072,524287,1048575,2097151,4194303]=true:=by kernel_rfl
def Uu (x0:Array Value) (x1:Array Value):M (Int):=do
 let Xx2←mkB KJ x0
 let Xx3←mkB KJ x1
 let Xx5←ldI .i64 ((Xx2).add 0)
 let Xx6←ldI .i64 ((Xx3).add 0)
 let Xx7←ldI .i64 ((Xx2).add 1)
 let Xx8←ldI .i64 ((Xx3).add 1)
 let Xx9←ldS ((Xx2).add 2)
 let Xx10←ldS ((Xx3).add 2)
 let Xx11←ldL ((Xx2).add 3)
 let Xx12←ldL ((Xx3).add 3)
 let Xx13←Vk Xx5 Xx6
 chk (fun h:Heap=>(KV h ((Xx2).add 0)=some (.int .i64 Xx5))∧(KV h ((Xx3).add 0)=some (.int .i64 Xx6))∧(KV h ((Xx2).add 1)=some (.int .i64 Xx7))∧(KV h ((Xx3).add 1)=some (.int .i64 Xx8))∧(KV h ((Xx2).add 2)=some (.string Xx9))∧(KV h ((Xx3).add 2)=some (.string Xx10))∧(KV h ((Xx2).add 3)=some ((Xx11:Sl).v))∧(KV h ((Xx3).add 3)=some ((Xx12:Sl).v)))
 let Xx14←U6 Xx7 Xx8
 chk (fun h:Heap=>(KV h ((Xx2).add 0)=some (.int .i64 Xx5))∧(KV h ((Xx3).add 0)=some (.int .i64 Xx6))∧(KV h ((Xx2).add 1)=some (.int .i64 Xx7))∧(KV h ((Xx3).add 1)=some (.int .i64 Xx8))∧(KV h ((Xx2).add 2)=some (.string Xx9))∧(KV h ((Xx3).add 2)=some (.string Xx10))∧(KV h ((Xx2).add 3)=some ((Xx11:Sl).v))∧(KV h ((Xx3).add 3)=some ((Xx12:Sl).v)))
 let Xx15←Wm Xx9 Xx10
 chk (fun h:Heap=>(KV h ((Xx2).add 0)=some (.int .i64 Xx5))∧(KV h ((Xx3).add 0)=some (.int .i64 Xx6))∧(KV h ((Xx2).add 1)=some (.int .i64 Xx7))∧(KV h ((Xx3).add 1)=some (.int .i64 Xx8))∧(KV h ((Xx2).add 2)=some (.string Xx9))∧(KV h ((Xx3).add 2)=some (.string Xx10))∧(KV h ((Xx2).add 3)=some ((Xx11:Sl).v))∧(KV h ((Xx3).add 3)=some ((Xx12:Sl).v)))
 let Xx16←Kh Xx11 Xx12 (Value.func (.func GS) #[] #[])
 let Xx17←bdL Gm 4 #[.int .i64 Xx13,.int .i64 Xx14,.int .i64 Xx15,.int .i64 Xx16]
 let Xx18←Xq Xx17
 M.pure Xx18
theorem Wn (x0:Array Value) (x1:Array Value):ZK Go.Proofs.Tryz.prog 13 #[.agg x0,.agg x1] (fun (r:Int)=>.int .i64 r) (Uu x0 x1):=by
 refine KY [(0,.agg x0),(1,.agg x1)] Go.Proofs.Tryz.func13 rfl rfl (Nat.le_of_ble_eq_true rfl) (Ke ⟨rfl,rfl,trivial⟩) (fun w0 w Q R a hret hE hR H=>?_)
 unfold Uu at H
 refine KH (fun K hK_1=>?_)
 refine KC ?_
 obtain ⟨Xx2,qXx2,H⟩:=H
 refine ZR (v:=.pointer (some Xx2)) rfl rfl hE rfl hR (YP hE rfl qXx2) (fun a w hE hR hh=>?_)
 replace H:=M.at hh H; clear hh
 obtain ⟨Xx3,qXx3,H⟩:=H
 refine ZR (v:=.pointer (some Xx3)) rfl rfl hE rfl hR (YP hE rfl qXx3) (fun a w hE hR hh=>?_)
 replace H:=M.at hh H; clear hh
 refine KB (v:=.int .i64 0) rfl rfl hE rfl (KE hE rfl) (fun a hE=>?_)
 refine KG ?_
 refine hK_1 _ _ ?_
 refine KH (fun K hK_4=>?_)
 obtain ⟨Xx5,qXx5,H⟩:=H
 obtain ⟨Xx6,qXx6,H⟩:=H
 obtain ⟨Xx7,qXx7,H⟩:=H
 obtain ⟨Xx8,qXx8,H⟩:=H
 obtain ⟨Xx9,qXx9,H⟩:=H
 obtain ⟨Xx10,qXx10,H⟩:=H
 obtain ⟨Xx11,qXx11,H⟩:=H
 obtain ⟨Xx12,qXx12,H⟩:=H
 refine VL (rops:=KGx) (by kernel_rfl) ?_
 have hT:Tab KGx _ _ _:=Jf KIh rfl (by kernel_rfl)
 have hM:=TabM.of KHk
 refine Zq (m:=23) (fun w:World=>(fun h:Heap=>(KV h ((Xx2).add 0)=some (.int .i64 Xx5))∧(KV h ((Xx3).add 0)=some (.int .i64 Xx6))∧(KV h ((Xx2).add 1)=some (.int .i64 Xx7))∧(KV h ((Xx3).add 1)=some (.int .i64 Xx8))∧(KV h ((Xx2).add 2)=some (.string Xx9))∧(KV h ((Xx3).add 2)=some (.string Xx10))∧(KV h ((Xx2).add 3)=some ((Xx11:Sl).v))∧(KV h ((Xx3).add 3)=some ((Xx12:Sl).v))) w.heap) [19,20,21,22] (unb 23 0) mo hR (by kernel_rfl) (by kernel_rfl) (fun w' e=>by rw [e]; exact ⟨qXx5,qXx6,qXx7,qXx8,qXx9,qXx10,qXx11,qXx12⟩) (fun w hh hR hs=>?_)
 replace H:=M.at hh H; clear hh
 refine KF (i:=0) (v:=.pointer (some ((Xx2).add 0))) (unb 23 1) rfl rfl hT (anyM hM (by kernel_rfl)) hE rfl (KA rfl) (fun w=>KI hE rfl qK) (fun a hE=>?_)
 refine KF (i:=2) (v:=.pointer (some ((Xx3).add 0))) (unb 23 5) rfl rfl hT (anyM hM (by kernel_rfl)) hE rfl (KA rfl) (fun w=>KI hE rfl qK) (fun a hE=>?_)
 refine KF (i:=5) (v:=.pointer (some ((Xx2).add 1))) (unb 23 37) rfl rfl hT (anyM hM (by kernel_rfl)) hE rfl (KA rfl) (fun w=>KI hE rfl Vy) (fun a hE=>?_)
 refine KF (i:=7) (v:=.pointer (some ((Xx3).add 1))) (unb 23 165) rfl rfl hT (anyM hM (by kernel_rfl)) hE rfl (KA rfl) (fun w=>KI hE rfl Vy) (fun a hE=>?_)
 refine KF (i:=10) (v:=.pointer (some ((Xx2).add 2))) (unb 23 1189) rfl rfl hT (anyM hM (by kernel_rfl)) hE rfl (KA rfl) (fun w=>KI hE rfl XV) (fun a hE=>?_)
 refine KF (i:=12) (v:=.pointer (some ((Xx3).add 2))) (unb 23 5285) rfl rfl hT (anyM hM (by kernel_rfl)) hE rfl (KA rfl) (fun w=>KI hE rfl XV) (fun a hE=>?_)
 refine KF (i:=15) (v:=.pointer (some ((Xx2).add 3))) (unb 23 38053) rfl rfl hT (anyM hM (by kernel_rfl)) hE rfl (KA rfl) (fun w=>KI hE rfl UU) (fun a hE=>?_)
 refine KF (i:=17) (v:=.pointer (some ((Xx3).add 3))) (unb 23 169125) rfl rfl hT (anyM hM (by kernel_rfl)) hE rfl (KA rfl) (fun w=>KI hE rfl UU) (fun a hE=>?_)
 refine Kt (i:=1) (v:=.int .i64 Xx5) (unb 23 169127) rfl rfl hT (UB hM (by kernel_rfl)) hE rfl (KA rfl) hs (fun w s=>KU hE rfl sc3 s.1) (fun a hE=>?_)
 refine Kt (i:=3) (v:=.int .i64 Xx6) (unb 23 169135) rfl rfl hT (UB hM (by kernel_rfl)) hE rfl (KA rfl) hs (fun w s=>KU hE rfl sc3 s.2.1) (fun a hE=>?_)
 refine Kt (i:=6) (v:=.int .i64 Xx7) (unb 23 169199) rfl rfl hT (UB hM (by kernel_rfl)) hE rfl (KA rfl) hs (fun w s=>KU hE rfl sc2 s.2.2.1) (fun a hE=>?_)
 refine Kt (i:=8) (v:=.int .i64 Xx8) (unb 23 169455) rfl rfl hT (UB hM (by kernel_rfl)) hE rfl (KA rfl) hs (fun w s=>KU hE rfl sc2 s.2.2.2.1) (fun a hE=>?_)
 refine Kt (i:=11) (v:=.string Xx9) (unb 23 171503) rfl rfl hT (UB hM (by kernel_rfl)) hE rfl (KA rfl) hs (fun w s=>KU hE rfl sc9 s.2.2.2.2.1) (fun a hE=>?_)
 refine Kt (i:=13) (v:=.string Xx10) (unb 23 179695) rfl rfl hT (UB hM (by kernel_rfl)) hE rfl (KA rfl) hs (fun w s=>KU hE rfl sc9 s.2.2.2.2.2.1) (fun a hE=>?_)
 refine Kt (i:=16) (v:=(Xx11:Sl).v) (unb 23 245231) rfl rfl hT (UB hM (by kernel_rfl)) hE rfl (KA rfl) hs (fun w s=>KU hE rfl sc22 s.2.2.2.2.2.2.1) (fun a hE=>?_)
 refine Kt (i:=18) (v:=(Xx12:Sl).v) (unb 23 507375) rfl rfl hT (UB hM (by kernel_rfl)) hE rfl (KA rfl) hs (fun w s=>KU hE rfl sc22 s.2.2.2.2.2.2.2) (fun a hE=>?_)
 refine KAW (i:=4) (unb 23 507391) rfl rfl rfl hT (oneM hM (by kernel_rfl)) rfl hE hR (KA rfl) qB rfl (qk Xx5 Xx6) (M.unbind H) (fun r h H w' e=>by obtain ⟨_,sA,H⟩:=H; rw [e]; exact sA) (fun Xx13 a w ea hR H hs=>?_)
 obtain ⟨_,sA,H⟩:=H; clear sA
 have hE:=Env.put_some hE rfl ea; clear ea
 refine KAW (i:=9) (unb 23 507903) rfl rfl rfl hT (oneM hM (by kernel_rfl)) rfl hE hR (KA rfl) NK rfl (Np Xx7 Xx8) (M.unbind H) (fun r h H w' e=>by obtain ⟨_,sA,H⟩:=H; rw [e]; exact sA) (fun Xx14 a w ea hR H hs=>?_)
 obtain ⟨_,sA,H⟩:=H; clear sA
 have hE:=Env.put_some hE rfl ea; clear ea
 refine KAW (i:=14) (unb 23 524287) rfl rfl rfl hT (oneM hM (by kernel_rfl)) rfl hE hR (KA rfl) qH rfl (ql Xx9 Xx10) (M.unbind H) (fun r h H w' e=>by obtain ⟨_,sA,H⟩:=H; rw [e]; exact sA) (fun Xx15 a w ea hR H hs=>?_)
 obtain ⟨_,sA,H⟩:=H; clear sA
 have hE:=Env.put_some hE rfl ea; clear ea
 refine WM (i:=19) (unb 23 1048575) rfl rfl rfl hT (oneM hM (by kernel_rfl)) rfl hE hR (KA rfl) Jo rfl (Jq Xx11 Xx12 (Value.func (.func GS) #[] #[])) (M.unbind H) (fun Xx16 a w ea hR H=>?_)
 have hE:=Env.put_some hE rfl ea; clear ea
 obtain ⟨Xx17,qXx17,H⟩:=H
 refine KCE (i:=20) (v:=(Xx17:Sl).v) (unb 23 2097151) rfl rfl hT (oneM hM (by kernel_rfl)) rfl hE hR rfl (KA rfl) (YE (cells:=#[.int .i64 Xx13,.int .i64 Xx14,.int .i64 Xx15,.int .i64 Xx16]) hE rfl KHj sz3 zr3 rfl rfl qXx17)  (fun a w hE hR hh=>?_)
 replace H:=M.at hh H; clear hh
 refine WM (i:=21) (unb 23 4194303) rfl rfl rfl hT (oneM hM (by kernel_rfl)) rfl hE hR (KA rfl) KBB rfl (KBn Xx17) (M.unbind H) (fun Xx18 a w ea hR H=>?_)
 have hE:=Env.put_some hE rfl ea; clear ea
 refine KF (i:=22) (v:=.int .i64 Xx18) (unb 23 8388607) rfl rfl hT (anyM hM (by kernel_rfl)) hE rfl (KA rfl) (fun w=>KE hE rfl) (fun a hE=>?_)
 refine JM hT (Wa hM (by kernel_rfl)) ?_
 refine hK_4 _ _ ?_
 refine Kg ?_
 exact hret _ _ _ Xx18 _ hE hR (KM hE rfl (RV.tmp rfl RV.nil)) rfl H
def Ze (C5:Sl) (C6:Value) (C7:Int) (self1:(Int)→M (Int)):(Int)→M (Int):=fun s=>match s with
 | Xx4=>do
  M.ite (decide (Xx4 < C7)) (do
   let Xx14←ixL C5 Xx4 4
   let Xx15←ldG 4 Xx14
   let Xx16←GV Go.Proofs.Tryz.prog (fun r:Bool=>.bool r) C6 [.agg Xx15]
   M.ite Xx16 (do
    M.pure Xx4
    ) (do
    self1 (IntKind.wrap .i64 (Xx4+1))
    )
   ) (do
   M.pure (-1)
   )
def Zs (x0:Sl) (x1:Value):M (Int):=do
 M.loop (Ze x0 x1 (x0.len:Int)) 0
theorem Ve (x0:Sl) (x1:Value):ZK Go.Proofs.Tryz.prog 169 #[(x0:Sl).v,x1] (fun (r:Int)=>.int .i64 r) (Zs x0 x1):=by
 refine KY [(0,(x0:Sl).v),(1,x1)] Go.Proofs.Tryz.func169 rfl rfl (Nat.le_of_ble_eq_true rfl) (Ke ⟨rfl,rfl,trivial⟩) (fun w0 w Q R a hret hE hR H=>?_)
 unfold Zs at H
 refine KH (fun K hK_1=>?_)
 refine KC ?_
 refine KB (v:=.int .i64 0) rfl rfl hE rfl (KE hE rfl) (fun a hE=>?_)
 refine KG ?_
 refine hK_1 _ _ ?_
 refine KH (fun K hK_2=>?_)
 refine KH (fun K hK_3=>?_)
 refine KC ?_
 refine KB (v:=(x0:Sl).v) rfl rfl hE rfl (KD hE rfl) (fun a hE=>?_)
 refine KB (v:=.int .i64 (x0.len:Int)) rfl rfl hE rfl (UA hE rfl 24 un22) (fun a hE=>?_)
 refine KB (v:=.int .i64 0) rfl rfl hE rfl (KD hE rfl) (fun a hE=>?_)
 refine KG ?_
 refine hK_3 _ _ ?_
 refine Kj ?_
 refine J7 (fun (s:Int)=>(⟨19,[]⟩:Frm)) (fun (s:Int)=>[(0,(x0:Sl).v),(1,x1),(7,.int .i64 (x0.len:Int)),(8,.int .i64 s)]) H (hE.cut (.cons rfl (.cons rfl (.cons rfl (.cons rfl Subs.nil))))) hR (fun Y self1 hY_8 Xx4 a w hE hR H=>?_)
 replace hE:Env (⟨19,[]⟩:Frm) a [(0,(x0:Sl).v),(1,x1),(7,.int .i64 (x0.len:Int)),(8,.int .i64 Xx4)]:=hE
 replace H:(Ze x0 x1 (x0.len:Int) self1 Xx4).wp w.heap Q:=H
 unfold Ze at H
 refine KH (fun K hK_9=>?_)
 refine KC ?_
 refine KB (v:=.bool (decide (Xx4 < (x0.len:Int)))) rfl rfl hE rfl (KL hE rfl rfl KN JL) (fun a hE=>?_)
 refine KG ?_
 refine hK_9 _ _ ?_
 refine KH (fun K hK_10=>?_)
 refine KS (decide (Xx4 < (x0.len:Int))) hE rfl (fun hb=>?_) (fun hb=>?_)
 ·replace H:=M.ite_t hb H
  refine Ka ?_
  refine hK_10 _ _ ?_
  refine KH (fun K hK_11=>?_)
  refine Kj ?_
  refine KH (fun K hK_12=>?_)
  refine KC ?_
  refine KB (v:=.int .i64 Xx4) rfl rfl hE rfl (KD hE rfl) (fun a hE=>?_)
  refine KB (v:=.int .i64 Xx4) rfl rfl hE rfl (KE hE rfl) (fun a hE=>?_)
  refine KG ?_
  refine hK_12 _ _ ?_
  refine KH (fun K hK_13=>?_)
  refine KC ?_
  refine KB (v:=x1) rfl rfl hE rfl (KD hE rfl) (fun a hE=>?_)
  refine KB (v:=(x0:Sl).v) rfl rfl hE rfl (KD hE rfl) (fun a hE=>?_)
  refine KB (v:=.int .i64 Xx4) rfl rfl hE rfl (KD hE rfl) (fun a hE=>?_)
  obtain ⟨Xx14,qXx14,H⟩:=H
  refine KB (v:=.pointer (some Xx14)) rfl rfl hE rfl (KR hE rfl rfl un22 sz24 qXx14) (fun a hE=>?_)
  obtain ⟨Xx15,qXx15,H⟩:=H
  refine KB (v:=.agg Xx15) rfl rfl hE rfl (ZN hE rfl ag24 qXx15) (fun a hE=>?_)
  refine KA7 hE hR rfl rfl (M.unbind H) (fun Xx16 a w ea hR H=>?_)
  have hE:=Env.put_some hE rfl ea; clear ea
  refine KG ?_
  refine hK_13 _ _ ?_
  refine KS Xx16 hE rfl (fun hb=>?_) (fun hb=>?_)
  ·replace H:=M.ite_t hb H
   refine KH (fun K hK_17=>?_)
   refine KC ?_
   refine KB (v:=.int .i64 Xx4) rfl rfl hE rfl (KD hE rfl) (fun a hE=>?_)
   refine KB (v:=.int .i64 Xx4) rfl rfl hE rfl (KE hE rfl) (fun a hE=>?_)
   refine KG ?_
   refine hK_17 _ _ ?_
   refine Kg ?_
   exact hret _ _ _ Xx4 _ hE hR (KM hE rfl (RV.tmp rfl RV.nil)) rfl H
  ·replace H:=M.ite_f hb H
   refine Ka ?_
   refine hK_11 _ _ ?_
   refine KC ?_
   refine KB (v:=.int .i64 (IntKind.wrap .i64 (Xx4+1))) rfl rfl hE rfl (KL hE rfl rfl KN JE) (fun a hE=>?_)
   refine KB (v:=.int .i64 (IntKind.wrap .i64 (Xx4+1))) rfl rfl hE rfl (KD hE rfl) (fun a hE=>?_)
   refine KG ?_
   exact hY_8 (IntKind.wrap .i64 (Xx4+1)) _ _ (hE.cut (.cons rfl (.cons rfl (.cons rfl (.cons rfl Subs.nil))))) hR H
 ·replace H:=M.ite_f hb H
  refine J6 ?_
  refine Xu.same ?_
  refine hK_2 _ _ ?_
  refine KH (fun K hK_18=>?_)
  refine KC ?_
  refine KB (v:=.int .i64 (-1)) rfl rfl hE rfl (KE hE rfl) (fun a hE=>?_)
  refine KG ?_
  refine hK_18 _ _ ?_
  refine Kg ?_
  exact hret _ _ _ (-1) _ hE hR (KM hE rfl (RV.tmp rfl RV.nil)) rfl H
def ZD (x0:Sl) (x1:Value):M (Bool):=do
 let Xx3←Zs x0 x1
 M.pure (decide (Xx3 ≥ 0))
theorem VG (x0:Sl) (x1:Value):ZK Go.Proofs.Tryz.prog 128 #[(x0:Sl).v,x1] (fun (r:Bool)=>.bool r) (ZD x0 x1):=by
 refine KY [(0,(x0:Sl).v),(1,x1)] Go.Proofs.Tryz.func128 rfl rfl (Nat.le_of_ble_eq_true rfl) (Ke ⟨rfl,rfl,trivial⟩) (fun w0 w Q R a hret hE hR H=>?_)
 unfold ZD at H
 refine KH (fun K hK_1=>?_)
 refine KC ?_
 refine KB (v:=.bool false) rfl rfl hE rfl (KE hE rfl) (fun a hE=>?_)
 refine KG ?_
 refine hK_1 _ _ ?_
 refine KH (fun K hK_2=>?_)
 refine KC ?_
 refine KB (v:=(x0:Sl).v) rfl rfl hE rfl (KD hE rfl) (fun a hE=>?_)
 refine KB (v:=x1) rfl rfl hE rfl (KD hE rfl) (fun a hE=>?_)
 refine KZ hE hR VU rfl (Ve x0 x1) (M.unbind H) (fun Xx3 a w ea hR H=>?_)
 have hE:=Env.put_some hE rfl ea; clear ea
 refine KB (v:=.bool (decide (Xx3 ≥ 0))) rfl rfl hE rfl (KL hE rfl rfl KN YJ) (fun a hE=>?_)
 refine KB (v:=.bool (decide (Xx3 ≥ 0))) rfl rfl hE rfl (KE hE rfl) (fun a hE=>?_)
 refine KG ?_
 refine hK_2 _ _ ?_
 refine Kg ?_
 exact hret _ _ _ (decide (Xx3 ≥ 0)) _ hE hR (KM hE rfl (RV.tmp rfl RV.nil)) rfl H
end Gx
namespace Gx
open Go
set_option linter.unusedVariables false
set_option maxRecDepth 100000
def WU (C12:Addr) (C13:Addr):M (Bool):=do
 let Xx15←ldI .i64 ((C12).add 1)
 let Xx16←M.ite (Xx15 == 0) (do
  let Xx17←ldS ((C12).add 2)
  M.pure (sEq Xx17 ByteArray.empty)
  ) (do
  M.pure false
  )
 let Xx18←M.ite Xx16 (do
  let Xx19←ldL ((C12).add 3)
  let Xx20←ZD Xx19 (Value.func (.func Xe) #[] #[.pointer (some C13)])
  M.pure (!Xx20)
  ) (do
  M.pure false
  )
 M.pure Xx18
theorem KHl:Vg Go.Proofs.Tryz.f74 24 [[],[0],[],[2],[1,3],[4],[],[6],[],[7,8],[9],[5,10],[11]] [[],[0],[],[2],[1,3],[4],[],[6],[],[7,8],[9],[5,10],[11]] [[],[0],[],[2],[0,1,2,3],[0,1,2,3,4],[],[6],[],[6,7,8],[6,7,8,9],[0,1,2,3,4,5,6,7,8,9,10],[0,1,2,3,4,5,6,7,8,9,10,11]]=true:=by kernel_rfl
def XW (C61:Addr) (C62:Addr) (self1:(Int)→M (Bool)):(Int)→M (Bool):=fun s=>match s with
 | Xx60=>do
  let Xx66←ldL ((C61).add 3)
  M.ite (decide (Xx60 < (Xx66.len:Int))) (do
   let Xx69←ldL ((C61).add 3)
   let Xx70←ixL Xx69 (IntKind.wrap .i64 (Xx60 - 2)) 4
   let Xx71←ldG 4 Xx70
   let Xx72←ldL ((C61).add 3)
   let Xx73←ixL Xx72 Xx60 4
   let Xx74←ldG 4 Xx73
   let Xx75←Uu Xx71 Xx74
   M.ite (decide (Xx75 ≥ 0)) (do
    M.pure false
    ) (do
    self1 (IntKind.wrap .i64 (Xx60+2))
    )
   ) (do
   WU C61 C62
   )
def WV (C32:Addr) (C33:Addr) (C34:Bool) (C35:Int) (Xx31:Bool):M (Bool):=do
 M.ite Xx31 (do
  let Xx37←M.ite C34 (do
   let Xx38←ldI .i64 ((C32).add 1)
   M.pure (decide (Xx38 ≥ 1))
   ) (do
   M.pure false
   )
  let Xx39←M.ite Xx37 (do
   let Xx40←ldI .i64 ((C32).add 1)
   M.pure (decide (Xx40≤281474976710656))
   ) (do
   M.pure false
   )
  M.pure Xx39
  ) (do
  M.ite (C35 == 2) (do
   let Xx43←ldI .i64 ((C32).add 1)
   let Xx44←M.ite (Xx43 == 0) (do
    let Xx45←ldL ((C32).add 3)
    M.pure ((Xx45.len:Int) == 0)
    ) (do
    M.pure false
    )
   let Xx46←M.ite Xx44 (do
    let Xx47←ldS ((C32).add 2)
    M.pure (decide ((Xx47.size:Int)≤128))
    ) (do
    M.pure false
    )
   M.pure Xx46
   ) (do
   M.ite (C35 == 4) (do
    let Xx50←ldL ((C32).add 3)
    M.ite (decide ((Xx50.len:Int) > 256)) (do
     M.pure false
     ) (do
     WU C32 C33
     )
    ) (do
    M.ite (C35 == 5) (do
     let Xx55←ldL ((C32).add 3)
     let Xx56←M.ite (decide ((Xx55.len:Int) > 512)) (do
      M.pure true
      ) (do
      let Xx57←ldL ((C32).add 3)
      M.pure ((Int.tmod (Xx57.len:Int) 2) == 1)
      )
     M.ite Xx56 (do
      M.pure false
      ) (do
      M.loop (XW C32 C33) 2
      )
     ) (do
     M.pure false
     )
    )
   )
  )
def Y8 (x0:Array Value) (x1:Int):M (Bool):=do
 let Xx2←mkB KJ x0
 let Xx3←mkB Gm #[.int .i64 x1]
 let Xx6←ldI .i64 Xx3
 M.ite (decide (Xx6 > 8)) (do
  M.pure false
  ) (do
  let Xx9←ldS ((Xx2).add 2)
  let Xx10←M.ite (sEq Xx9 ByteArray.empty) (do
   let Xx11←ldL ((Xx2).add 3)
   M.pure ((Xx11.len:Int) == 0)
   ) (do
   M.pure false
   )
  let Xx22←ldI .i64 ((Xx2).add 0)
  M.ite (Xx22 == 1) (do
   M.pure Xx10
   ) (do
   M.ite (Xx22 == 3) (do
    let Xx27←M.ite Xx10 (do
     let Xx28←ldI .i64 ((Xx2).add 1)
     let Xx29←M.ite (Xx28 == 0) (do
      M.pure true
      ) (do
      let Xx30←ldI .i64 ((Xx2).add 1)
      M.pure (Xx30 == 1)
      )
     M.pure Xx29
     ) (do
     M.pure false
     )
    M.pure Xx27
    ) (do
    M.ite (Xx22 == 6) (do
     WV Xx2 Xx3 Xx10 Xx22 (Xx22 == 6)
     ) (do
     WV Xx2 Xx3 Xx10 Xx22 (Xx22 == 7)
     )
    )
   )
  )
theorem zm (x0:Array Value) (x1:Int):ZK Go.Proofs.Tryz.prog 74 #[.agg x0,.int .i64 x1] (fun (r:Bool)=>.bool r) (Y8 x0 x1):=by
 refine KY [(0,.agg x0),(1,.int .i64 x1)] Go.Proofs.Tryz.func74 rfl rfl (Nat.le_of_ble_eq_true rfl) (Ke ⟨rfl,rfl,trivial⟩) (fun w0 w Q R a hret hE hR H=>?_)
 unfold Y8 at H
 refine KH (fun K hK_1=>?_)
 refine KC ?_
 obtain ⟨Xx2,qXx2,H⟩:=H
 refine ZR (v:=.pointer (some Xx2)) rfl rfl hE rfl hR (YP hE rfl qXx2) (fun a w hE hR hh=>?_)
 replace H:=M.at hh H; clear hh
 obtain ⟨Xx3,qXx3,H⟩:=H
 refine ZR (v:=.pointer (some Xx3)) rfl rfl hE rfl hR (YP hE rfl qXx3) (fun a w hE hR hh=>?_)
 replace H:=M.at hh H; clear hh
 refine KB (v:=.bool false) rfl rfl hE rfl (KE hE rfl) (fun a hE=>?_)
 refine KG ?_
 refine hK_1 _ _ ?_
 refine KH (fun K hK_4=>?_)
 refine KH (fun K hK_5=>?_)
 refine KC ?_
 obtain ⟨Xx6,qXx6,H⟩:=H
 refine KB (v:=.int .i64 Xx6) rfl rfl hE rfl (KU hE rfl sc3 qXx6) (fun a hE=>?_)
 refine KB (v:=.bool (decide (Xx6 > 8))) rfl rfl hE rfl (KL hE rfl rfl KN YI) (fun a hE=>?_)
 refine KG ?_
 refine hK_5 _ _ ?_
 refine KS (decide (Xx6 > 8)) hE rfl (fun hb=>?_) (fun hb=>?_)
 ·replace H:=M.ite_t hb H
  refine KH (fun K hK_7=>?_)
  refine KC ?_
  refine KB (v:=.bool false) rfl rfl hE rfl (KE hE rfl) (fun a hE=>?_)
  refine KG ?_
  refine hK_7 _ _ ?_
  refine Kg ?_
  exact hret _ _ _ false _ hE hR (KM hE rfl (RV.tmp rfl RV.nil)) rfl H
 ·replace H:=M.ite_f hb H
  refine Ka ?_
  refine hK_4 _ _ ?_
  refine KH (fun K hK_8=>?_)
  refine KC ?_
  refine KB (v:=.pointer (some ((Xx2).add 2))) rfl rfl hE rfl (KI hE rfl XV) (fun a hE=>?_)
  obtain ⟨Xx9,qXx9,H⟩:=H
  refine KB (v:=.string Xx9) rfl rfl hE rfl (KU hE rfl sc9 qXx9) (fun a hE=>?_)
  refine KB (v:=.bool (sEq Xx9 ByteArray.empty)) rfl rfl hE rfl (KL hE rfl rfl Xc N4) (fun a hE=>?_)
  refine KB (v:=.bool (sEq Xx9 ByteArray.empty)) rfl rfl hE rfl (KD hE rfl) (fun a hE=>?_)
  refine J5 (n:=(⟨121,[]⟩:Frm)) (w0:=w0) 5 (fun Xx10:Bool=>[(2,.pointer (some Xx2)),(3,.pointer (some Xx3)),(17,.bool Xx10)]) (M.unbind H) (fun Kr hKr H=>?_) ?_
  ·rcases Kq (sEq Xx9 ByteArray.empty) with hb | hb
   ·replace H:=M.ite_t hb H
    have hE:=hE.reb 12 (sEq Xx9 ByteArray.empty) true hb rfl
    refine t_on rfl hE rfl rfl rfl ?_
    refine KB (v:=.pointer (some ((Xx2).add 3))) rfl rfl hE rfl (KI hE rfl UU) (fun a hE=>?_)
    refine t_on rfl hE rfl rfl rfl ?_
    obtain ⟨Xx11,qXx11,H⟩:=H
    refine KB (v:=(Xx11:Sl).v) rfl rfl hE rfl (KU hE rfl sc22 qXx11) (fun a hE=>?_)
    refine t_on rfl hE rfl rfl rfl ?_
    refine KB (v:=.int .i64 (Xx11.len:Int)) rfl rfl hE rfl (UA hE rfl 24 un22) (fun a hE=>?_)
    refine t_on rfl hE rfl rfl rfl ?_
    refine KB (v:=.bool ((Xx11.len:Int) == 0)) rfl rfl hE rfl (KL hE rfl rfl KN Z5) (fun a hE=>?_)
    refine KB rfl rfl hE rfl (Kc hE rfl rfl) (fun a hE=>?_)
    refine KG ?_
    exact hKr _ _ _ (hE.cut (.cons rfl (.cons rfl (.cons rfl Subs.nil)))) hR H
   ·replace H:=M.ite_f hb H
    have hE:=hE.reb 12 (sEq Xx9 ByteArray.empty) false hb rfl
    refine Kf rfl hE rfl rfl rfl (fun a ea=>?_)
    have hE:=Env.put_some hE rfl ea; clear ea
    refine Kf rfl hE rfl rfl rfl (fun a ea=>?_)
    have hE:=Env.put_some hE rfl ea; clear ea
    refine Kf rfl hE rfl rfl rfl (fun a ea=>?_)
    have hE:=Env.put_some hE rfl ea; clear ea
    refine Kf rfl hE rfl rfl rfl (fun a ea=>?_)
    have hE:=Env.put_some hE rfl ea; clear ea
    refine KB rfl rfl hE rfl (Kd hE rfl rfl) (fun a hE=>?_)
    refine KG ?_
    exact hKr _ _ _ (hE.cut (.cons rfl (.cons rfl (.cons rfl Subs.nil)))) hR H
  ·intro Xx10 a w hE hR H
   refine KB (v:=.bool Xx10) rfl rfl hE rfl (KE hE rfl) (fun a hE=>?_)
   refine KG ?_
   refine hK_8 _ _ ?_
   refine Ku (fun a w=>Env (⟨121,[]⟩:Frm) a [(2,.pointer (some Xx2)),(3,.pointer (some Xx3))]∧Rest w0 w∧(WU Xx2 Xx3).wp w.heap Q) ?_ ?_
   ·rintro a w ⟨hE,hR,H⟩
    unfold WU at H
    refine KH (fun K hK_14=>?_)
    refine KC ?_
    refine KB (v:=.pointer (some ((Xx2).add 1))) rfl rfl hE rfl (KI hE rfl Vy) (fun a hE=>?_)
    obtain ⟨Xx15,qXx15,H⟩:=H
    refine KB (v:=.int .i64 Xx15) rfl rfl hE rfl (KU hE rfl sc2 qXx15) (fun a hE=>?_)
    refine KB (v:=.bool (Xx15 == 0)) rfl rfl hE rfl (KL hE rfl rfl KN Z5) (fun a hE=>?_)
    refine KB (v:=.bool (Xx15 == 0)) rfl rfl hE rfl (KD hE rfl) (fun a hE=>?_)
    refine J5 (n:=(⟨121,[]⟩:Frm)) (w0:=w0) 4 (fun Xx16:Bool=>[(2,.pointer (some Xx2)),(3,.pointer (some Xx3)),(113,.bool Xx16)]) (M.unbind H) (fun Kr hKr H=>?_) ?_
    ·rcases Kq (Xx15 == 0) with hb | hb
     ·replace H:=M.ite_t hb H
      have hE:=hE.reb 109 (Xx15 == 0) true hb rfl
      refine t_on rfl hE rfl rfl rfl ?_
      refine KB (v:=.pointer (some ((Xx2).add 2))) rfl rfl hE rfl (KI hE rfl XV) (fun a hE=>?_)
      refine t_on rfl hE rfl rfl rfl ?_
      obtain ⟨Xx17,qXx17,H⟩:=H
      refine KB (v:=.string Xx17) rfl rfl hE rfl (KU hE rfl sc9 qXx17) (fun a hE=>?_)
      refine t_on rfl hE rfl rfl rfl ?_
      refine KB (v:=.bool (sEq Xx17 ByteArray.empty)) rfl rfl hE rfl (KL hE rfl rfl Xc N4) (fun a hE=>?_)
      refine KB rfl rfl hE rfl (Kc hE rfl rfl) (fun a hE=>?_)
      refine KG ?_
      exact hKr _ _ _ (hE.cut (.cons rfl (.cons rfl (.cons rfl Subs.nil)))) hR H
     ·replace H:=M.ite_f hb H
      have hE:=hE.reb 109 (Xx15 == 0) false hb rfl
      refine Kf rfl hE rfl rfl rfl (fun a ea=>?_)
      have hE:=Env.put_some hE rfl ea; clear ea
      refine Kf rfl hE rfl rfl rfl (fun a ea=>?_)
      have hE:=Env.put_some hE rfl ea; clear ea
      refine Kf rfl hE rfl rfl rfl (fun a ea=>?_)
      have hE:=Env.put_some hE rfl ea; clear ea
      refine KB rfl rfl hE rfl (Kd hE rfl rfl) (fun a hE=>?_)
      refine KG ?_
      exact hKr _ _ _ (hE.cut (.cons rfl (.cons rfl (.cons rfl Subs.nil)))) hR H
    ·intro Xx16 a w hE hR H
     refine KB (v:=.bool Xx16) rfl rfl hE rfl (KD hE rfl) (fun a hE=>?_)
     refine J5 (n:=(⟨121,[]⟩:Frm)) (w0:=w0) 6 (fun Xx18:Bool=>[(120,.bool Xx18)]) (M.unbind H) (fun Kr hKr H=>?_) ?_
     ·rcases Kq Xx16 with hb | hb
      ·replace H:=M.ite_t hb H
       have hE:=hE.reb 114 Xx16 true hb rfl
       refine t_on rfl hE rfl rfl rfl ?_
       refine KB (v:=.pointer (some ((Xx2).add 3))) rfl rfl hE rfl (KI hE rfl UU) (fun a hE=>?_)
       refine t_on rfl hE rfl rfl rfl ?_
       obtain ⟨Xx19,qXx19,H⟩:=H
       refine KB (v:=(Xx19:Sl).v) rfl rfl hE rfl (KU hE rfl sc22 qXx19) (fun a hE=>?_)
       refine t_on rfl hE rfl rfl rfl ?_
       refine KB (v:=(Value.func (.func Xe) #[] #[.pointer (some Xx3)])) rfl rfl hE rfl (qh hE rfl) (fun a hE=>?_)
       refine t_on rfl hE rfl rfl rfl ?_
       refine KZ hE hR VB rfl (VG Xx19 (Value.func (.func Xe) #[] #[.pointer (some Xx3)])) (M.unbind H) (fun Xx20 a w ea hR H=>?_)
       have hE:=Env.put_some hE rfl ea; clear ea
       refine t_on rfl hE rfl rfl rfl ?_
       refine KB (v:=.bool (!Xx20)) rfl rfl hE rfl (r_un hE rfl GB) (fun a hE=>?_)
       refine KB rfl rfl hE rfl (Kc hE rfl rfl) (fun a hE=>?_)
       refine KG ?_
       exact hKr _ _ _ (hE.cut (.cons rfl Subs.nil)) hR H
      ·replace H:=M.ite_f hb H
       have hE:=hE.reb 114 Xx16 false hb rfl
       refine Kf rfl hE rfl rfl rfl (fun a ea=>?_)
       have hE:=Env.put_some hE rfl ea; clear ea
       refine Kf rfl hE rfl rfl rfl (fun a ea=>?_)
       have hE:=Env.put_some hE rfl ea; clear ea
       refine Kf rfl hE rfl rfl rfl (fun a ea=>?_)
       have hE:=Env.put_some hE rfl ea; clear ea
       refine Kf rfl hE rfl rfl rfl (fun a ea=>?_)
       have hE:=Env.put_some hE rfl ea; clear ea
       refine Kf rfl hE rfl rfl rfl (fun a ea=>?_)
       have hE:=Env.put_some hE rfl ea; clear ea
       refine KB rfl rfl hE rfl (Kd hE rfl rfl) (fun a hE=>?_)
       refine KG ?_
       exact hKr _ _ _ (hE.cut (.cons rfl Subs.nil)) hR H
     ·intro Xx18 a w hE hR H
      refine KB (v:=.bool Xx18) rfl rfl hE rfl (KE hE rfl) (fun a hE=>?_)
      refine KG ?_
      refine hK_14 _ _ ?_
      refine Kg ?_
      exact hret _ _ _ Xx18 _ hE hR (KM hE rfl (RV.tmp rfl RV.nil)) rfl H
   ·skip
    refine KH (fun K hK_21=>?_)
    refine KC ?_
    refine KB (v:=.pointer (some ((Xx2).add 0))) rfl rfl hE rfl (KI hE rfl qK) (fun a hE=>?_)
    obtain ⟨Xx22,qXx22,H⟩:=H
    refine KB (v:=.int .i64 Xx22) rfl rfl hE rfl (KU hE rfl sc3 qXx22) (fun a hE=>?_)
    refine KG ?_
    refine hK_21 _ _ ?_
    refine Kj ?_
    refine KH (fun K hK_23=>?_)
    refine KC ?_
    refine KB (v:=.bool (Xx22 == 1)) rfl rfl hE rfl (KL hE rfl rfl KN Z5) (fun a hE=>?_)
    refine KB (v:=.bool (Xx22 == 1)) rfl rfl hE rfl (KE hE rfl) (fun a hE=>?_)
    refine KG ?_
    refine hK_23 _ _ ?_
    refine KS (Xx22 == 1) hE rfl (fun hb=>?_) (fun hb=>?_)
    ·replace H:=M.ite_t hb H
     refine KH (fun K hK_24=>?_)
     refine KC ?_
     refine KB (v:=.bool Xx10) rfl rfl hE rfl (KD hE rfl) (fun a hE=>?_)
     refine KB (v:=.bool Xx10) rfl rfl hE rfl (KE hE rfl) (fun a hE=>?_)
     refine KG ?_
     refine hK_24 _ _ ?_
     refine Kg ?_
     exact hret _ _ _ Xx10 _ hE hR (KM hE rfl (RV.tmp rfl RV.nil)) rfl H
    ·replace H:=M.ite_f hb H
     refine KH (fun K hK_25=>?_)
     refine KC ?_
     refine KB (v:=.bool (Xx22 == 3)) rfl rfl hE rfl (KL hE rfl rfl KN Z5) (fun a hE=>?_)
     refine KB (v:=.bool (Xx22 == 3)) rfl rfl hE rfl (KE hE rfl) (fun a hE=>?_)
     refine KG ?_
     refine hK_25 _ _ ?_
     refine KS (Xx22 == 3) hE rfl (fun hb=>?_) (fun hb=>?_)
     ·replace H:=M.ite_t hb H
      refine KH (fun K hK_26=>?_)
      refine KC ?_
      refine KB (v:=.bool Xx10) rfl rfl hE rfl (KD hE rfl) (fun a hE=>?_)
      refine KB (v:=.bool Xx10) rfl rfl hE rfl (KD hE rfl) (fun a hE=>?_)
      refine J5 (n:=(⟨121,[]⟩:Frm)) (w0:=w0) 9 (fun Xx27:Bool=>[(35,.bool Xx27)]) (M.unbind H) (fun Kr hKr H=>?_) ?_
      ·rcases Kq Xx10 with hb | hb
       ·replace H:=M.ite_t hb H
        have hE:=hE.reb 26 Xx10 true hb rfl
        refine t_on rfl hE rfl rfl rfl ?_
        refine KB (v:=.pointer (some ((Xx2).add 1))) rfl rfl hE rfl (KI hE rfl Vy) (fun a hE=>?_)
        refine t_on rfl hE rfl rfl rfl ?_
        obtain ⟨Xx28,qXx28,H⟩:=H
        refine KB (v:=.int .i64 Xx28) rfl rfl hE rfl (KU hE rfl sc2 qXx28) (fun a hE=>?_)
        refine t_on rfl hE rfl rfl rfl ?_
        refine KB (v:=.bool (Xx28 == 0)) rfl rfl hE rfl (KL hE rfl rfl KN Z5) (fun a hE=>?_)
        refine t_on rfl hE rfl rfl rfl ?_
        refine KB (v:=.bool (Xx28 == 0)) rfl rfl hE rfl (KD hE rfl) (fun a hE=>?_)
        refine J5 (n:=(⟨121,[]⟩:Frm)) (w0:=w0) 4 (fun Xx29:Bool=>[(26,.bool true),(34,.bool Xx29)]) (M.unbind H) (fun Kr hKr H=>?_) ?_
        ·rcases Kq (Xx28 == 0) with hb | hb
         ·replace H:=M.ite_t hb H
          have hE:=hE.reb 30 (Xx28 == 0) true hb rfl
          refine Kf rfl hE rfl rfl rfl (fun a ea=>?_)
          have hE:=Env.put_some hE rfl ea; clear ea
          refine Kf rfl hE rfl rfl rfl (fun a ea=>?_)
          have hE:=Env.put_some hE rfl ea; clear ea
          refine Kf rfl hE rfl rfl rfl (fun a ea=>?_)
          have hE:=Env.put_some hE rfl ea; clear ea
          refine t_on rfl hE rfl rfl rfl ?_
          refine KB rfl rfl hE rfl (Kc hE rfl rfl) (fun a hE=>?_)
          refine KG ?_
          exact hKr _ _ _ (hE.cut (.cons rfl (.cons rfl Subs.nil))) hR H
         ·replace H:=M.ite_f hb H
          have hE:=hE.reb 30 (Xx28 == 0) false hb rfl
          refine t_on rfl hE rfl rfl rfl ?_
          refine KB (v:=.pointer (some ((Xx2).add 1))) rfl rfl hE rfl (KI hE rfl Vy) (fun a hE=>?_)
          refine t_on rfl hE rfl rfl rfl ?_
          obtain ⟨Xx30,qXx30,H⟩:=H
          refine KB (v:=.int .i64 Xx30) rfl rfl hE rfl (KU hE rfl sc2 qXx30) (fun a hE=>?_)
          refine t_on rfl hE rfl rfl rfl ?_
          refine KB (v:=.bool (Xx30 == 1)) rfl rfl hE rfl (KL hE rfl rfl KN Z5) (fun a hE=>?_)
          refine t_on rfl hE rfl rfl rfl ?_
          refine KB rfl rfl hE rfl (Kd hE rfl rfl) (fun a hE=>?_)
          refine KG ?_
          exact hKr _ _ _ (hE.cut (.cons rfl (.cons rfl Subs.nil))) hR H
        ·intro Xx29 a w hE hR H
         refine KB rfl rfl hE rfl (Kc hE rfl rfl) (fun a hE=>?_)
         refine KG ?_
         exact hKr _ _ _ (hE.cut (.cons rfl Subs.nil)) hR H
       ·replace H:=M.ite_f hb H
        have hE:=hE.reb 26 Xx10 false hb rfl
        refine Kf rfl hE rfl rfl rfl (fun a ea=>?_)
        have hE:=Env.put_some hE rfl ea; clear ea
        refine Kf rfl hE rfl rfl rfl (fun a ea=>?_)
        have hE:=Env.put_some hE rfl ea; clear ea
        refine Kf rfl hE rfl rfl rfl (fun a ea=>?_)
        have hE:=Env.put_some hE rfl ea; clear ea
        refine Kf rfl hE rfl rfl rfl (fun a ea=>?_)
        have hE:=Env.put_some hE rfl ea; clear ea
        refine Ge rfl hE rfl rfl (fun b hb=>by cases hb) (fun a ea=>?_)
        have hE:=Env.put_some hE rfl ea; clear ea
        refine Ge rfl hE rfl rfl (fun b hb=>by cases hb) (fun a ea=>?_)
        have hE:=Env.put_some hE rfl ea; clear ea
        refine Ge rfl hE rfl rfl (fun b hb=>by cases hb) (fun a ea=>?_)
        have hE:=Env.put_some hE rfl ea; clear ea
        refine Kf rfl hE rfl rfl rfl (fun a ea=>?_)
        have hE:=Env.put_some hE rfl ea; clear ea
        refine KB rfl rfl hE rfl (Kd hE rfl rfl) (fun a hE=>?_)
        refine KG ?_
        exact hKr _ _ _ (hE.cut (.cons rfl Subs.nil)) hR H
      ·intro Xx27 a w hE hR H
       refine KB (v:=.bool Xx27) rfl rfl hE rfl (KE hE rfl) (fun a hE=>?_)
       refine KG ?_
       refine hK_26 _ _ ?_
       refine Kg ?_
       exact hret _ _ _ Xx27 _ hE hR (KM hE rfl (RV.tmp rfl RV.nil)) rfl H
     ·replace H:=M.ite_f hb H
      refine Ku (fun a w=>∃ (Xx31:Bool),Env (⟨121,[]⟩:Frm) a [(2,.pointer (some Xx2)),(3,.pointer (some Xx3)),(5,.bool Xx10),(19,.int .i64 Xx22),(36,.bool Xx31)]∧Rest w0 w∧(WV Xx2 Xx3 Xx10 Xx22 Xx31).wp w.heap Q) ?_ ?_
      ·rintro a w ⟨Xx31,hE,hR,H⟩
       unfold WV at H
       refine KS Xx31 hE rfl (fun hb=>?_) (fun hb=>?_)
       ·replace H:=M.ite_t hb H
        refine KH (fun K hK_36=>?_)
        refine KC ?_
        refine KB (v:=.bool Xx10) rfl rfl hE rfl (KD hE rfl) (fun a hE=>?_)
        refine KB (v:=.bool Xx10) rfl rfl hE rfl (KD hE rfl) (fun a hE=>?_)
        refine J5 (n:=(⟨121,[]⟩:Frm)) (w0:=w0) 4 (fun Xx37:Bool=>[(2,.pointer (some Xx2)),(44,.bool Xx37)]) (M.unbind H) (fun Kr hKr H=>?_) ?_
        ·rcases Kq Xx10 with hb | hb
         ·replace H:=M.ite_t hb H
          have hE:=hE.reb 40 Xx10 true hb rfl
          refine t_on rfl hE rfl rfl rfl ?_
          refine KB (v:=.pointer (some ((Xx2).add 1))) rfl rfl hE rfl (KI hE rfl Vy) (fun a hE=>?_)
          refine t_on rfl hE rfl rfl rfl ?_
          obtain ⟨Xx38,qXx38,H⟩:=H
          refine KB (v:=.int .i64 Xx38) rfl rfl hE rfl (KU hE rfl sc2 qXx38) (fun a hE=>?_)
          refine t_on rfl hE rfl rfl rfl ?_
          refine KB (v:=.bool (decide (Xx38 ≥ 1))) rfl rfl hE rfl (KL hE rfl rfl KN YJ) (fun a hE=>?_)
          refine KB rfl rfl hE rfl (Kc hE rfl rfl) (fun a hE=>?_)
          refine KG ?_
          exact hKr _ _ _ (hE.cut (.cons rfl (.cons rfl Subs.nil))) hR H
         ·replace H:=M.ite_f hb H
          have hE:=hE.reb 40 Xx10 false hb rfl
          refine Kf rfl hE rfl rfl rfl (fun a ea=>?_)
          have hE:=Env.put_some hE rfl ea; clear ea
          refine Kf rfl hE rfl rfl rfl (fun a ea=>?_)
          have hE:=Env.put_some hE rfl ea; clear ea
          refine Kf rfl hE rfl rfl rfl (fun a ea=>?_)
          have hE:=Env.put_some hE rfl ea; clear ea
          refine KB rfl rfl hE rfl (Kd hE rfl rfl) (fun a hE=>?_)
          refine KG ?_
          exact hKr _ _ _ (hE.cut (.cons rfl (.cons rfl Subs.nil))) hR H
        ·intro Xx37 a w hE hR H
         refine KB (v:=.bool Xx37) rfl rfl hE rfl (KD hE rfl) (fun a hE=>?_)
         refine J5 (n:=(⟨121,[]⟩:Frm)) (w0:=w0) 4 (fun Xx39:Bool=>[(49,.bool Xx39)]) (M.unbind H) (fun Kr hKr H=>?_) ?_
         ·rcases Kq Xx37 with hb | hb
          ·replace H:=M.ite_t hb H
           have hE:=hE.reb 45 Xx37 true hb rfl
           refine t_on rfl hE rfl rfl rfl ?_
           refine KB (v:=.pointer (some ((Xx2).add 1))) rfl rfl hE rfl (KI hE rfl Vy) (fun a hE=>?_)
           refine t_on rfl hE rfl rfl rfl ?_
           obtain ⟨Xx40,qXx40,H⟩:=H
           refine KB (v:=.int .i64 Xx40) rfl rfl hE rfl (KU hE rfl sc2 qXx40) (fun a hE=>?_)
           refine t_on rfl hE rfl rfl rfl ?_
           refine KB (v:=.bool (decide (Xx40≤281474976710656))) rfl rfl hE rfl (KL hE rfl rfl KN KAC) (fun a hE=>?_)
           refine KB rfl rfl hE rfl (Kc hE rfl rfl) (fun a hE=>?_)
           refine KG ?_
           exact hKr _ _ _ (hE.cut (.cons rfl Subs.nil)) hR H
          ·replace H:=M.ite_f hb H
           have hE:=hE.reb 45 Xx37 false hb rfl
           refine Kf rfl hE rfl rfl rfl (fun a ea=>?_)
           have hE:=Env.put_some hE rfl ea; clear ea
           refine Kf rfl hE rfl rfl rfl (fun a ea=>?_)
           have hE:=Env.put_some hE rfl ea; clear ea
           refine Kf rfl hE rfl rfl rfl (fun a ea=>?_)
           have hE:=Env.put_some hE rfl ea; clear ea
           refine KB rfl rfl hE rfl (Kd hE rfl rfl) (fun a hE=>?_)
           refine KG ?_
           exact hKr _ _ _ (hE.cut (.cons rfl Subs.nil)) hR H
         ·intro Xx39 a w hE hR H
          refine KB (v:=.bool Xx39) rfl rfl hE rfl (KE hE rfl) (fun a hE=>?_)
          refine KG ?_
          refine hK_36 _ _ ?_
          refine Kg ?_
          exact hret _ _ _ Xx39 _ hE hR (KM hE rfl (RV.tmp rfl RV.nil)) rfl H
       ·replace H:=M.ite_f hb H
        refine KH (fun K hK_41=>?_)
        refine KC ?_
        refine KB (v:=.bool (Xx22 == 2)) rfl rfl hE rfl (KL hE rfl rfl KN Z5) (fun a hE=>?_)
        refine KB (v:=.bool (Xx22 == 2)) rfl rfl hE rfl (KE hE rfl) (fun a hE=>?_)
        refine KG ?_
        refine hK_41 _ _ ?_
        refine KS (Xx22 == 2) hE rfl (fun hb=>?_) (fun hb=>?_)
        ·replace H:=M.ite_t hb H
         refine KH (fun K hK_42=>?_)
         refine KC ?_
         refine KB (v:=.pointer (some ((Xx2).add 1))) rfl rfl hE rfl (KI hE rfl Vy) (fun a hE=>?_)
         obtain ⟨Xx43,qXx43,H⟩:=H
         refine KB (v:=.int .i64 Xx43) rfl rfl hE rfl (KU hE rfl sc2 qXx43) (fun a hE=>?_)
         refine KB (v:=.bool (Xx43 == 0)) rfl rfl hE rfl (KL hE rfl rfl KN Z5) (fun a hE=>?_)
         refine KB (v:=.bool (Xx43 == 0)) rfl rfl hE rfl (KD hE rfl) (fun a hE=>?_)
         refine J5 (n:=(⟨121,[]⟩:Frm)) (w0:=w0) 5 (fun Xx44:Bool=>[(2,.pointer (some Xx2)),(60,.bool Xx44)]) (M.unbind H) (fun Kr hKr H=>?_) ?_
         ·rcases Kq (Xx43 == 0) with hb | hb
          ·replace H:=M.ite_t hb H
           have hE:=hE.reb 55 (Xx43 == 0) true hb rfl
           refine t_on rfl hE rfl rfl rfl ?_
           refine KB (v:=.pointer (some ((Xx2).add 3))) rfl rfl hE rfl (KI hE rfl UU) (fun a hE=>?_)
           refine t_on rfl hE rfl rfl rfl ?_
           obtain ⟨Xx45,qXx45,H⟩:=H
           refine KB (v:=(Xx45:Sl).v) rfl rfl hE rfl (KU hE rfl sc22 qXx45) (fun a hE=>?_)
           refine t_on rfl hE rfl rfl rfl ?_
           refine KB (v:=.int .i64 (Xx45.len:Int)) rfl rfl hE rfl (UA hE rfl 24 un22) (fun a hE=>?_)
           refine t_on rfl hE rfl rfl rfl ?_
           refine KB (v:=.bool ((Xx45.len:Int) == 0)) rfl rfl hE rfl (KL hE rfl rfl KN Z5) (fun a hE=>?_)
           refine KB rfl rfl hE rfl (Kc hE rfl rfl) (fun a hE=>?_)
           refine KG ?_
           exact hKr _ _ _ (hE.cut (.cons rfl (.cons rfl Subs.nil))) hR H
          ·replace H:=M.ite_f hb H
           have hE:=hE.reb 55 (Xx43 == 0) false hb rfl
           refine Kf rfl hE rfl rfl rfl (fun a ea=>?_)
           have hE:=Env.put_some hE rfl ea; clear ea
           refine Kf rfl hE rfl rfl rfl (fun a ea=>?_)
           have hE:=Env.put_some hE rfl ea; clear ea
           refine Kf rfl hE rfl rfl rfl (fun a ea=>?_)
           have hE:=Env.put_some hE rfl ea; clear ea
           refine Kf rfl hE rfl rfl rfl (fun a ea=>?_)
           have hE:=Env.put_some hE rfl ea; clear ea
           refine KB rfl rfl hE rfl (Kd hE rfl rfl) (fun a hE=>?_)
           refine KG ?_
           exact hKr _ _ _ (hE.cut (.cons rfl (.cons rfl Subs.nil))) hR H
         ·intro Xx44 a w hE hR H
          refine KB (v:=.bool Xx44) rfl rfl hE rfl (KD hE rfl) (fun a hE=>?_)
          refine J5 (n:=(⟨121,[]⟩:Frm)) (w0:=w0) 5 (fun Xx46:Bool=>[(66,.bool Xx46)]) (M.unbind H) (fun Kr hKr H=>?_) ?_
          ·rcases Kq Xx44 with hb | hb
           ·replace H:=M.ite_t hb H
            have hE:=hE.reb 61 Xx44 true hb rfl
            refine t_on rfl hE rfl rfl rfl ?_
            refine KB (v:=.pointer (some ((Xx2).add 2))) rfl rfl hE rfl (KI hE rfl XV) (fun a hE=>?_)
            refine t_on rfl hE rfl rfl rfl ?_
            obtain ⟨Xx47,qXx47,H⟩:=H
            refine KB (v:=.string Xx47) rfl rfl hE rfl (KU hE rfl sc9 qXx47) (fun a hE=>?_)
            refine t_on rfl hE rfl rfl rfl ?_
            refine KB (v:=.int .i64 (Xx47.size:Int)) rfl rfl hE rfl (U3 hE rfl un9) (fun a hE=>?_)
            refine t_on rfl hE rfl rfl rfl ?_
            refine KB (v:=.bool (decide ((Xx47.size:Int)≤128))) rfl rfl hE rfl (KL hE rfl rfl KN KAC) (fun a hE=>?_)
            refine KB rfl rfl hE rfl (Kc hE rfl rfl) (fun a hE=>?_)
            refine KG ?_
            exact hKr _ _ _ (hE.cut (.cons rfl Subs.nil)) hR H
           ·replace H:=M.ite_f hb H
            have hE:=hE.reb 61 Xx44 false hb rfl
            refine Kf rfl hE rfl rfl rfl (fun a ea=>?_)
            have hE:=Env.put_some hE rfl ea; clear ea
            refine Kf rfl hE rfl rfl rfl (fun a ea=>?_)
            have hE:=Env.put_some hE rfl ea; clear ea
            refine Kf rfl hE rfl rfl rfl (fun a ea=>?_)
            have hE:=Env.put_some hE rfl ea; clear ea
            refine Kf rfl hE rfl rfl rfl (fun a ea=>?_)
            have hE:=Env.put_some hE rfl ea; clear ea
            refine KB rfl rfl hE rfl (Kd hE rfl rfl) (fun a hE=>?_)
            refine KG ?_
            exact hKr _ _ _ (hE.cut (.cons rfl Subs.nil)) hR H
          ·intro Xx46 a w hE hR H
           refine KB (v:=.bool Xx46) rfl rfl hE rfl (KE hE rfl) (fun a hE=>?_)
           refine KG ?_
           refine hK_42 _ _ ?_
           refine Kg ?_
           exact hret _ _ _ Xx46 _ hE hR (KM hE rfl (RV.tmp rfl RV.nil)) rfl H
        ·replace H:=M.ite_f hb H
         refine KH (fun K hK_48=>?_)
         refine KC ?_
         refine KB (v:=.bool (Xx22 == 4)) rfl rfl hE rfl (KL hE rfl rfl KN Z5) (fun a hE=>?_)
         refine KB (v:=.bool (Xx22 == 4)) rfl rfl hE rfl (KE hE rfl) (fun a hE=>?_)
         refine KG ?_
         refine hK_48 _ _ ?_
         refine KS (Xx22 == 4) hE rfl (fun hb=>?_) (fun hb=>?_)
         ·replace H:=M.ite_t hb H
          refine KH (fun K hK_49=>?_)
          refine KC ?_
          refine KB (v:=.pointer (some ((Xx2).add 3))) rfl rfl hE rfl (KI hE rfl UU) (fun a hE=>?_)
          obtain ⟨Xx50,qXx50,H⟩:=H
          refine KB (v:=(Xx50:Sl).v) rfl rfl hE rfl (KU hE rfl sc22 qXx50) (fun a hE=>?_)
          refine KB (v:=.int .i64 (Xx50.len:Int)) rfl rfl hE rfl (UA hE rfl 24 un22) (fun a hE=>?_)
          refine KB (v:=.bool (decide ((Xx50.len:Int) > 256))) rfl rfl hE rfl (KL hE rfl rfl KN YI) (fun a hE=>?_)
          refine KG ?_
          refine hK_49 _ _ ?_
          refine KS (decide ((Xx50.len:Int) > 256)) hE rfl (fun hb=>?_) (fun hb=>?_)
          ·replace H:=M.ite_t hb H
           refine KH (fun K hK_51=>?_)
           refine KC ?_
           refine KB (v:=.bool false) rfl rfl hE rfl (KE hE rfl) (fun a hE=>?_)
           refine KG ?_
           refine hK_51 _ _ ?_
           refine Kg ?_
           exact hret _ _ _ false _ hE hR (KM hE rfl (RV.tmp rfl RV.nil)) rfl H
          ·replace H:=M.ite_f hb H
           refine Ka ?_
           exact ⟨hE.cut (.cons rfl (.cons rfl Subs.nil)),hR,H⟩
         ·replace H:=M.ite_f hb H
          refine KH (fun K hK_52=>?_)
          refine KC ?_
          refine KB (v:=.bool (Xx22 == 5)) rfl rfl hE rfl (KL hE rfl rfl KN Z5) (fun a hE=>?_)
          refine KB (v:=.bool (Xx22 == 5)) rfl rfl hE rfl (KE hE rfl) (fun a hE=>?_)
          refine KG ?_
          refine hK_52 _ _ ?_
          refine KS (Xx22 == 5) hE rfl (fun hb=>?_) (fun hb=>?_)
          ·replace H:=M.ite_t hb H
           refine KH (fun K hK_53=>?_)
           refine KH (fun K hK_54=>?_)
           refine KC ?_
           refine KB (v:=.pointer (some ((Xx2).add 3))) rfl rfl hE rfl (KI hE rfl UU) (fun a hE=>?_)
           obtain ⟨Xx55,qXx55,H⟩:=H
           refine KB (v:=(Xx55:Sl).v) rfl rfl hE rfl (KU hE rfl sc22 qXx55) (fun a hE=>?_)
           refine KB (v:=.int .i64 (Xx55.len:Int)) rfl rfl hE rfl (UA hE rfl 24 un22) (fun a hE=>?_)
           refine KB (v:=.bool (decide ((Xx55.len:Int) > 512))) rfl rfl hE rfl (KL hE rfl rfl KN YI) (fun a hE=>?_)
           refine KB (v:=.bool (decide ((Xx55.len:Int) > 512))) rfl rfl hE rfl (KD hE rfl) (fun a hE=>?_)
           refine J5 (n:=(⟨121,[]⟩:Frm)) (w0:=w0) 6 (fun Xx56:Bool=>[(2,.pointer (some Xx2)),(3,.pointer (some Xx3)),(85,.bool Xx56)]) (M.unbind H) (fun Kr hKr H=>?_) ?_
           ·rcases Kq (decide ((Xx55.len:Int) > 512)) with hb | hb
            ·replace H:=M.ite_t hb H
             have hE:=hE.reb 79 (decide ((Xx55.len:Int) > 512)) true hb rfl
             refine Kf rfl hE rfl rfl rfl (fun a ea=>?_)
             have hE:=Env.put_some hE rfl ea; clear ea
             refine Kf rfl hE rfl rfl rfl (fun a ea=>?_)
             have hE:=Env.put_some hE rfl ea; clear ea
             refine Kf rfl hE rfl rfl rfl (fun a ea=>?_)
             have hE:=Env.put_some hE rfl ea; clear ea
             refine Kf rfl hE rfl rfl rfl (fun a ea=>?_)
             have hE:=Env.put_some hE rfl ea; clear ea
             refine Kf rfl hE rfl rfl rfl (fun a ea=>?_)
             have hE:=Env.put_some hE rfl ea; clear ea
             refine KB rfl rfl hE rfl (Kc hE rfl rfl) (fun a hE=>?_)
             refine KG ?_
             exact hKr _ _ _ (hE.cut (.cons rfl (.cons rfl (.cons rfl Subs.nil)))) hR H
            ·replace H:=M.ite_f hb H
             have hE:=hE.reb 79 (decide ((Xx55.len:Int) > 512)) false hb rfl
             refine t_on rfl hE rfl rfl rfl ?_
             refine KB (v:=.pointer (some ((Xx2).add 3))) rfl rfl hE rfl (KI hE rfl UU) (fun a hE=>?_)
             refine t_on rfl hE rfl rfl rfl ?_
             obtain ⟨Xx57,qXx57,H⟩:=H
             refine KB (v:=(Xx57:Sl).v) rfl rfl hE rfl (KU hE rfl sc22 qXx57) (fun a hE=>?_)
             refine t_on rfl hE rfl rfl rfl ?_
             refine KB (v:=.int .i64 (Xx57.len:Int)) rfl rfl hE rfl (UA hE rfl 24 un22) (fun a hE=>?_)
             refine t_on rfl hE rfl rfl rfl ?_
             refine KB (v:=.int .i64 (Int.tmod (Xx57.len:Int) 2)) rfl rfl hE rfl (KL hE rfl rfl KN (KD3 ⟨by decide,rfl⟩)) (fun a hE=>?_)
             refine t_on rfl hE rfl rfl rfl ?_
             refine KB (v:=.bool ((Int.tmod (Xx57.len:Int) 2) == 1)) rfl rfl hE rfl (KL hE rfl rfl KN Z5) (fun a hE=>?_)
             refine KB rfl rfl hE rfl (Kd hE rfl rfl) (fun a hE=>?_)
             refine KG ?_
             exact hKr _ _ _ (hE.cut (.cons rfl (.cons rfl (.cons rfl Subs.nil)))) hR H
           ·intro Xx56 a w hE hR H
            refine KG ?_
            refine hK_54 _ _ ?_
            refine KS Xx56 hE rfl (fun hb=>?_) (fun hb=>?_)
            ·replace H:=M.ite_t hb H
             refine KH (fun K hK_58=>?_)
             refine KC ?_
             refine KB (v:=.bool false) rfl rfl hE rfl (KE hE rfl) (fun a hE=>?_)
             refine KG ?_
             refine hK_58 _ _ ?_
             refine Kg ?_
             exact hret _ _ _ false _ hE hR (KM hE rfl (RV.tmp rfl RV.nil)) rfl H
            ·replace H:=M.ite_f hb H
             refine Ka ?_
             refine hK_53 _ _ ?_
             refine KH (fun K hK_59=>?_)
             refine KC ?_
             refine KB (v:=.int .i64 2) rfl rfl hE rfl (KE hE rfl) (fun a hE=>?_)
             refine KG ?_
             refine hK_59 _ _ ?_
             refine Kj ?_
             refine J7 (fun (s:Int)=>(⟨121,[]⟩:Frm)) (fun (s:Int)=>[(2,.pointer (some Xx2)),(3,.pointer (some Xx3)),(6,.int .i64 s)]) H (hE.cut (.cons rfl (.cons rfl (.cons rfl Subs.nil)))) hR (fun Y self1 hY_63 Xx60 a w hE hR H=>?_)
             replace hE:Env (⟨121,[]⟩:Frm) a [(2,.pointer (some Xx2)),(3,.pointer (some Xx3)),(6,.int .i64 Xx60)]:=hE
             replace H:(XW Xx2 Xx3 self1 Xx60).wp w.heap Q:=H
             unfold XW at H
             refine KH (fun K hK_64=>?_)
             refine KH (fun K hK_65=>?_)
             refine KC ?_
             refine KB (v:=.int .i64 Xx60) rfl rfl hE rfl (KD hE rfl) (fun a hE=>?_)
             refine KB (v:=.pointer (some ((Xx2).add 3))) rfl rfl hE rfl (KI hE rfl UU) (fun a hE=>?_)
             obtain ⟨Xx66,qXx66,H⟩:=H
             refine KB (v:=(Xx66:Sl).v) rfl rfl hE rfl (KU hE rfl sc22 qXx66) (fun a hE=>?_)
             refine KB (v:=.int .i64 (Xx66.len:Int)) rfl rfl hE rfl (UA hE rfl 24 un22) (fun a hE=>?_)
             refine KB (v:=.bool (decide (Xx60 < (Xx66.len:Int)))) rfl rfl hE rfl (KL hE rfl rfl KN JL) (fun a hE=>?_)
             refine KG ?_
             refine hK_65 _ _ ?_
             refine KS (decide (Xx60 < (Xx66.len:Int))) hE rfl (fun hb=>?_) (fun hb=>?_)
             ·replace H:=M.ite_t hb H
              refine Ka ?_
              refine hK_64 _ _ ?_
              refine KH (fun K hK_67=>?_)
              refine Kj ?_
              refine KH (fun K hK_68=>?_)
              obtain ⟨Xx69,qXx69,H⟩:=H
              obtain ⟨Xx70,qXx70,H⟩:=H
              obtain ⟨Xx71,qXx71,H⟩:=H
              obtain ⟨Xx72,qXx72,H⟩:=H
              obtain ⟨Xx73,qXx73,H⟩:=H
              obtain ⟨Xx74,qXx74,H⟩:=H
              have hT:=Jf KHl rfl rfl
              refine Zq (fun w:World=>(fun h:Heap=>(KV h ((Xx2).add 3)=some ((Xx69:Sl).v))∧(Xx71.size=4∧∀ i,i < 4→KV h (Addr.add Xx70 i)=Xx71[i]?)∧(KV h ((Xx2).add 3)=some ((Xx72:Sl).v))∧(Xx74.size=4∧∀ i,i < 4→KV h (Addr.add Xx73 i)=Xx74[i]?)) w.heap) [11,12] #[false,false,false,false,false,false,false,false,false,false,false,false,false] mo hR rfl rfl (fun w' e=>by rw [e]; exact ⟨qXx69,qXx71,qXx72,qXx74⟩) (fun w hh hR hs=>?_)
              replace H:=M.at hh H; clear hh
              refine KF (i:=0) (v:=.pointer (some ((Xx2).add 3))) #[true,false,false,false,false,false,false,false,false,false,false,false,false] rfl rfl hT (by kernel_rfl) hE rfl (KA rfl) (fun w=>KI hE rfl UU) (fun a hE=>?_)
              refine KF (i:=2) (v:=.int .i64 Xx60) #[true,false,true,false,false,false,false,false,false,false,false,false,false] rfl rfl hT (by kernel_rfl) hE rfl (KA rfl) (fun w=>KD hE rfl) (fun a hE=>?_)
              refine KF (i:=3) (v:=.int .i64 (IntKind.wrap .i64 (Xx60 - 2))) #[true,false,true,true,false,false,false,false,false,false,false,false,false] rfl rfl hT (by kernel_rfl) hE rfl (KA rfl) (fun w=>KL hE rfl rfl KN VA) (fun a hE=>?_)
              refine KF (i:=6) (v:=.pointer (some ((Xx2).add 3))) #[true,false,true,true,false,false,true,false,false,false,false,false,false] rfl rfl hT (by kernel_rfl) hE rfl (KA rfl) (fun w=>KI hE rfl UU) (fun a hE=>?_)
              refine KF (i:=8) (v:=.int .i64 Xx60) #[true,false,true,true,false,false,true,false,true,false,false,false,false] rfl rfl hT (by kernel_rfl) hE rfl (KA rfl) (fun w=>KD hE rfl) (fun a hE=>?_)
              refine Kt (i:=1) (v:=(Xx69:Sl).v) #[true,true,true,true,false,false,true,false,true,false,false,false,false] rfl rfl hT (by kernel_rfl) hE rfl (KA rfl) hs (fun w s=>KU hE rfl sc22 s.1) (fun a hE=>?_)
              refine KF (i:=4) (v:=.pointer (some Xx70)) #[true,true,true,true,true,false,true,false,true,false,false,false,false] rfl rfl hT (by kernel_rfl) hE rfl (KA rfl) (fun w=>KR hE rfl rfl un22 sz24 qXx70) (fun a hE=>?_)
              refine Kt (i:=5) (v:=.agg Xx71) #[true,true,true,true,true,true,true,false,true,false,false,false,false] rfl rfl hT (by kernel_rfl) hE rfl (KA rfl) hs (fun w s=>ZN hE rfl ag24 s.2.1) (fun a hE=>?_)
              refine Kt (i:=7) (v:=(Xx72:Sl).v) #[true,true,true,true,true,true,true,true,true,false,false,false,false] rfl rfl hT (by kernel_rfl) hE rfl (KA rfl) hs (fun w s=>KU hE rfl sc22 s.2.2.1) (fun a hE=>?_)
              refine KF (i:=9) (v:=.pointer (some Xx73)) #[true,true,true,true,true,true,true,true,true,true,false,false,false] rfl rfl hT (by kernel_rfl) hE rfl (KA rfl) (fun w=>KR hE rfl rfl un22 sz24 qXx73) (fun a hE=>?_)
              refine Kt (i:=10) (v:=.agg Xx74) #[true,true,true,true,true,true,true,true,true,true,true,false,false] rfl rfl hT (by kernel_rfl) hE rfl (KA rfl) hs (fun w s=>ZN hE rfl ag24 s.2.2.2) (fun a hE=>?_)
              refine WM (i:=11) #[true,true,true,true,true,true,true,true,true,true,true,true,false] rfl rfl rfl hT (by kernel_rfl) rfl hE hR (KA rfl) WL rfl (Wn Xx71 Xx74) (M.unbind H) (fun Xx75 a w ea hR H=>?_)
              have hE:=Env.put_some hE rfl ea; clear ea
              refine KF (i:=12) (v:=.bool (decide (Xx75 ≥ 0))) #[true,true,true,true,true,true,true,true,true,true,true,true,true] rfl rfl hT (by kernel_rfl) hE rfl (KA rfl) (fun w=>KL hE rfl rfl KN YJ) (fun a hE=>?_)
              refine JM hT (by kernel_rfl) ?_
              refine hK_68 _ _ ?_
              refine KS (decide (Xx75 ≥ 0)) hE rfl (fun hb=>?_) (fun hb=>?_)
              ·replace H:=M.ite_t hb H
               refine KH (fun K hK_76=>?_)
               refine KC ?_
               refine KB (v:=.bool false) rfl rfl hE rfl (KE hE rfl) (fun a hE=>?_)
               refine KG ?_
               refine hK_76 _ _ ?_
               refine Kg ?_
               exact hret _ _ _ false _ hE hR (KM hE rfl (RV.tmp rfl RV.nil)) rfl H
              ·replace H:=M.ite_f hb H
               refine Ka ?_
               refine hK_67 _ _ ?_
               refine KC ?_
               refine KB (v:=.int .i64 Xx60) rfl rfl hE rfl (KD hE rfl) (fun a hE=>?_)
               refine KB (v:=.int .i64 (IntKind.wrap .i64 (Xx60+2))) rfl rfl hE rfl (KL hE rfl rfl KN JE) (fun a hE=>?_)
               refine KB (v:=.int .i64 (IntKind.wrap .i64 (Xx60+2))) rfl rfl hE rfl (KE hE rfl) (fun a hE=>?_)
               refine KG ?_
               exact hY_63 (IntKind.wrap .i64 (Xx60+2)) _ _ (hE.cut (.cons rfl (.cons rfl (.cons rfl Subs.nil)))) hR H
             ·replace H:=M.ite_f hb H
              refine J6 ?_
              refine Xu.same ?_
              exact ⟨hE.cut (.cons rfl (.cons rfl Subs.nil)),hR,H⟩
          ·replace H:=M.ite_f hb H
           refine KH (fun K hK_77=>?_)
           refine KC ?_
           refine KB (v:=.bool false) rfl rfl hE rfl (KE hE rfl) (fun a hE=>?_)
           refine KG ?_
           refine hK_77 _ _ ?_
           refine Kg ?_
           exact hret _ _ _ false _ hE hR (KM hE rfl (RV.tmp rfl RV.nil)) rfl H
      ·skip
       refine KH (fun K hK_78=>?_)
       refine KC ?_
       refine KB (v:=.bool (Xx22 == 6)) rfl rfl hE rfl (KL hE rfl rfl KN Z5) (fun a hE=>?_)
       refine KB (v:=.bool (Xx22 == 6)) rfl rfl hE rfl (KE hE rfl) (fun a hE=>?_)
       refine KG ?_
       refine hK_78 _ _ ?_
       refine KS (Xx22 == 6) hE rfl (fun hb=>?_) (fun hb=>?_)
       ·replace H:=M.ite_t hb H
        refine Ka ?_
        exact ⟨Xx22 == 6,hE.cut (.cons rfl (.cons rfl (.cons rfl (.cons rfl (.cons rfl Subs.nil))))),hR,H⟩
       ·replace H:=M.ite_f hb H
        refine KC ?_
        refine KB (v:=.bool (Xx22 == 7)) rfl rfl hE rfl (KL hE rfl rfl KN Z5) (fun a hE=>?_)
        refine KB (v:=.bool (Xx22 == 7)) rfl rfl hE rfl (KE hE rfl) (fun a hE=>?_)
        refine KG ?_
        exact ⟨Xx22 == 7,hE.cut (.cons rfl (.cons rfl (.cons rfl (.cons rfl (.cons rfl Subs.nil))))),hR,H⟩
def WP (x0:Array Value):M (Int):=do
 let Xx2←mkB KJ x0
 let Xx5←ldG 4 Xx2
 let Xx6←Y8 Xx5 1
 M.ite (!Xx6) (do
  M.pure 20
  ) (do
  M.pure 0
  )
theorem GJ (x0:Array Value):ZK Go.Proofs.Tryz.prog 16 #[.agg x0] (fun (r:Int)=>.int .i64 r) (WP x0):=by
 refine KY [(0,.agg x0)] Go.Proofs.Tryz.func16 rfl rfl (Nat.le_of_ble_eq_true rfl) (Ke ⟨rfl,trivial⟩) (fun w0 w Q R a hret hE hR H=>?_)
 unfold WP at H
 refine KH (fun K hK_1=>?_)
 refine KC ?_
 obtain ⟨Xx2,qXx2,H⟩:=H
 refine ZR (v:=.pointer (some Xx2)) rfl rfl hE rfl hR (YP hE rfl qXx2) (fun a w hE hR hh=>?_)
 replace H:=M.at hh H; clear hh
 refine KB (v:=.int .i64 0) rfl rfl hE rfl (KE hE rfl) (fun a hE=>?_)
 refine KG ?_
 refine hK_1 _ _ ?_
 refine KH (fun K hK_3=>?_)
 refine KH (fun K hK_4=>?_)
 refine KC ?_
 obtain ⟨Xx5,qXx5,H⟩:=H
 refine KB (v:=.agg Xx5) rfl rfl hE rfl (ZN hE rfl ag24 qXx5) (fun a hE=>?_)
 refine KZ hE hR zC rfl (zm Xx5 1) (M.unbind H) (fun Xx6 a w ea hR H=>?_)
 have hE:=Env.put_some hE rfl ea; clear ea
 refine KB (v:=.bool (!Xx6)) rfl rfl hE rfl (r_un hE rfl GB) (fun a hE=>?_)
 refine KG ?_
 refine hK_4 _ _ ?_
 refine KS (!Xx6) hE rfl (fun hb=>?_) (fun hb=>?_)
 ·replace H:=M.ite_t hb H
  refine KH (fun K hK_7=>?_)
  refine KC ?_
  refine KB (v:=.int .i64 20) rfl rfl hE rfl (KE hE rfl) (fun a hE=>?_)
  refine KG ?_
  refine hK_7 _ _ ?_
  refine Kg ?_
  exact hret _ _ _ 20 _ hE hR (KM hE rfl (RV.tmp rfl RV.nil)) rfl H
 ·replace H:=M.ite_f hb H
  refine Ka ?_
  refine hK_3 _ _ ?_
  refine KH (fun K hK_8=>?_)
  refine KC ?_
  refine KB (v:=.int .i64 0) rfl rfl hE rfl (KE hE rfl) (fun a hE=>?_)
  refine KG ?_
  refine hK_8 _ _ ?_
  refine Kg ?_
  exact hret _ _ _ 0 _ hE hR (KM hE rfl (RV.tmp rfl RV.nil)) rfl H
def Y9 (x0:ByteArray):M (Array Value × Int × Int):=do
 let Xx2←mkB KJ (#[.int .i64 0,.int .i64 0,.string ByteArray.empty,.slice none 0 0]:Array Value)
 let Xx4←NY Go.Proofs.Tryz.prog qA #[.string x0] (fun r:Array Value × Int × Bool=>.tuple #[.agg r.1,.int .i64 r.2.1,.bool r.2.2])
 let Xx5←mkB KJ (#[.int .i64 0,.int .i64 0,.string ByteArray.empty,.slice none 0 0]:Array Value)
 M.need (Xx4.1.size=4)
 stG Xx5 Xx4.1
 M.ite (!Xx4.2.2) (do
  M.need ((#[.int .i64 0,.int .i64 0,.string ByteArray.empty,.slice none 0 0]:Array Value).size=4)
  stG Xx2 (#[.int .i64 0,.int .i64 0,.string ByteArray.empty,.slice none 0 0]:Array Value)
  let Rr11←ldG 4 Xx2
  M.pure (Rr11,Xx4.2.1,22)
  ) (do
  let Xx13←ldG 4 Xx5
  let Xx14←WP Xx13
  M.ite (Xx14 != 0) (do
   M.need ((#[.int .i64 0,.int .i64 0,.string ByteArray.empty,.slice none 0 0]:Array Value).size=4)
   stG Xx2 (#[.int .i64 0,.int .i64 0,.string ByteArray.empty,.slice none 0 0]:Array Value)
   let Rr17←ldG 4 Xx2
   M.pure (Rr17,0,20)
   ) (do
   let Xx19←ldG 4 Xx5
   M.need (Xx19.size=4)
   stG Xx2 Xx19
   let Rr21←ldG 4 Xx2
   M.pure (Rr21,0,0)
   )
  )
theorem KBJ (x0:ByteArray):ZK Go.Proofs.Tryz.prog 17 #[.string x0] (fun (r:Array Value × Int × Int)=>.tuple #[.agg r.1,.int .i64 r.2.1,.int .i64 r.2.2]) (Y9 x0):=by
 refine KY [(0,.string x0)] Go.Proofs.Tryz.func17 rfl rfl (Nat.le_of_ble_eq_true rfl) (Ke ⟨rfl,trivial⟩) (fun w0 w Q R a hret hE hR H=>?_)
 unfold Y9 at H
 refine KH (fun K hK_1=>?_)
 refine KC ?_
 obtain ⟨Xx2,qXx2,H⟩:=H
 refine ZR (v:=.pointer (some Xx2)) rfl rfl hE rfl hR (Z4 zr24 qXx2) (fun a w hE hR hh=>?_)
 replace H:=M.at hh H; clear hh
 refine KB (v:=.int .i64 0) rfl rfl hE rfl (KE hE rfl) (fun a hE=>?_)
 refine KB (v:=.int .i64 0) rfl rfl hE rfl (KE hE rfl) (fun a hE=>?_)
 refine KG ?_
 refine hK_1 _ _ ?_
 refine KH (fun K hK_3=>?_)
 refine KC ?_
 refine KB (v:=.string x0) rfl rfl hE rfl (KD hE rfl) (fun a hE=>?_)
 refine KZ hE hR KBG rfl (Ud) (M.unbind H) (fun Xx4 a w ea hR H=>?_)
 have hE:=Env.put_some hE rfl ea; clear ea
 refine KB (v:=.tuple #[.agg Xx4.1,.int .i64 Xx4.2.1,.bool Xx4.2.2]) rfl rfl hE rfl (KD hE rfl) (fun a hE=>?_)
 refine KB (v:=.agg Xx4.1) rfl rfl hE rfl (ZF hE rfl rfl) (fun a hE=>?_)
 refine KB (v:=.int .i64 Xx4.2.1) rfl rfl hE rfl (ZF hE rfl rfl) (fun a hE=>?_)
 refine KB (v:=.bool Xx4.2.2) rfl rfl hE rfl (ZF hE rfl rfl) (fun a hE=>?_)
 obtain ⟨Xx5,qXx5,H⟩:=H
 refine ZR (v:=.pointer (some Xx5)) rfl rfl hE rfl hR (Z4 zr24 qXx5) (fun a w hE hR hh=>?_)
 replace H:=M.at hh H; clear hh
 obtain ⟨qz,H⟩:=H
 obtain ⟨u_6,qu_6,H⟩:=H
 refine JI rfl rfl hE hR (Kv hE rfl rfl sz24 qz qu_6) (fun a w hE hR hh=>?_)
 replace H:=M.at hh H; clear hh
 refine KB (v:=.int .i64 Xx4.2.1) rfl rfl hE rfl (KE hE rfl) (fun a hE=>?_)
 refine KB (v:=.bool Xx4.2.2) rfl rfl hE rfl (KE hE rfl) (fun a hE=>?_)
 refine KG ?_
 refine hK_3 _ _ ?_
 refine KH (fun K hK_7=>?_)
 refine Kj ?_
 refine KH (fun K hK_8=>?_)
 refine KC ?_
 refine KB (v:=.bool Xx4.2.2) rfl rfl hE rfl (KD hE rfl) (fun a hE=>?_)
 refine KB (v:=.bool (!Xx4.2.2)) rfl rfl hE rfl (r_un hE rfl GB) (fun a hE=>?_)
 refine KB (v:=.bool (!Xx4.2.2)) rfl rfl hE rfl (KE hE rfl) (fun a hE=>?_)
 refine KG ?_
 refine hK_8 _ _ ?_
 refine KS (!Xx4.2.2) hE rfl (fun hb=>?_) (fun hb=>?_)
 ·replace H:=M.ite_t hb H
  refine KH (fun K hK_9=>?_)
  refine KC ?_
  refine KB (v:=.agg (#[.int .i64 0,.int .i64 0,.string ByteArray.empty,.slice none 0 0]:Array Value)) rfl rfl hE rfl (YD bd24) (fun a hE=>?_)
  refine KB (v:=.int .i64 Xx4.2.1) rfl rfl hE rfl (KD hE rfl) (fun a hE=>?_)
  obtain ⟨qz,H⟩:=H
  obtain ⟨u_10,qu_10,H⟩:=H
  refine JI rfl rfl hE hR (Kv hE rfl rfl sz24 qz qu_10) (fun a w hE hR hh=>?_)
  replace H:=M.at hh H; clear hh
  refine KB (v:=.int .i64 Xx4.2.1) rfl rfl hE rfl (KE hE rfl) (fun a hE=>?_)
  refine KB (v:=.int .i64 22) rfl rfl hE rfl (KE hE rfl) (fun a hE=>?_)
  refine KG ?_
  refine hK_9 _ _ ?_
  refine Kg ?_
  obtain ⟨Rr11,qRr11,H⟩:=H
  exact hret _ _ _ (Rr11,Xx4.2.1,22) _ hE hR (KM hE rfl (RV.cellG rfl ag24 qRr11 (RV.tmp rfl (RV.tmp rfl RV.nil)))) rfl H
 ·replace H:=M.ite_f hb H
  refine KH (fun K hK_12=>?_)
  refine KC ?_
  obtain ⟨Xx13,qXx13,H⟩:=H
  refine KB (v:=.agg Xx13) rfl rfl hE rfl (ZN hE rfl ag24 qXx13) (fun a hE=>?_)
  refine KZ hE hR Xg rfl (GJ Xx13) (M.unbind H) (fun Xx14 a w ea hR H=>?_)
  have hE:=Env.put_some hE rfl ea; clear ea
  refine KB (v:=.bool (Xx14 != 0)) rfl rfl hE rfl (KL hE rfl rfl KN Yi) (fun a hE=>?_)
  refine KB (v:=.bool (Xx14 != 0)) rfl rfl hE rfl (KE hE rfl) (fun a hE=>?_)
  refine KG ?_
  refine hK_12 _ _ ?_
  refine KS (Xx14 != 0) hE rfl (fun hb=>?_) (fun hb=>?_)
  ·replace H:=M.ite_t hb H
   refine KH (fun K hK_15=>?_)
   refine KC ?_
   refine KB (v:=.agg (#[.int .i64 0,.int .i64 0,.string ByteArray.empty,.slice none 0 0]:Array Value)) rfl rfl hE rfl (YD bd24) (fun a hE=>?_)
   obtain ⟨qz,H⟩:=H
   obtain ⟨u_16,qu_16,H⟩:=H
   refine JI rfl rfl hE hR (Kv hE rfl rfl sz24 qz qu_16) (fun a w hE hR hh=>?_)
   replace H:=M.at hh H; clear hh
   refine KB (v:=.int .i64 0) rfl rfl hE rfl (KE hE rfl) (fun a hE=>?_)
   refine KB (v:=.int .i64 20) rfl rfl hE rfl (KE hE rfl) (fun a hE=>?_)
   refine KG ?_
   refine hK_15 _ _ ?_
   refine Kg ?_
   obtain ⟨Rr17,qRr17,H⟩:=H
   exact hret _ _ _ (Rr17,0,20) _ hE hR (KM hE rfl (RV.cellG rfl ag24 qRr17 (RV.tmp rfl (RV.tmp rfl RV.nil)))) rfl H
  ·replace H:=M.ite_f hb H
   refine Ka ?_
   refine hK_7 _ _ ?_
   refine KH (fun K hK_18=>?_)
   refine KC ?_
   obtain ⟨Xx19,qXx19,H⟩:=H
   refine KB (v:=.agg Xx19) rfl rfl hE rfl (ZN hE rfl ag24 qXx19) (fun a hE=>?_)
   obtain ⟨qz,H⟩:=H
   obtain ⟨u_20,qu_20,H⟩:=H
   refine JI rfl rfl hE hR (Kv hE rfl rfl sz24 qz qu_20) (fun a w hE hR hh=>?_)
   replace H:=M.at hh H; clear hh
   refine KB (v:=.int .i64 0) rfl rfl hE rfl (KE hE rfl) (fun a hE=>?_)
   refine KB (v:=.int .i64 0) rfl rfl hE rfl (KE hE rfl) (fun a hE=>?_)
   refine KG ?_
   refine hK_18 _ _ ?_
   refine Kg ?_
   obtain ⟨Rr21,qRr21,H⟩:=H
   exact hret _ _ _ (Rr21,0,0) _ hE hR (KM hE rfl (RV.cellG rfl ag24 qRr21 (RV.tmp rfl (RV.tmp rfl RV.nil)))) rfl H
end Gx
