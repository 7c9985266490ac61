/- Printed by program: Go functions as Lean programs, each tied to its code. No condition. -/
import Derived.Test.YtpibdohdkfkcnaaGreatDoorP0
import Derived.Test.YtpibdohdkfkcnaaGreatDoorP1
import Derived.Test.YtpibdohdkfkcnaaGreatDoorP2
import Derived.Test.YtpibdohdkfkcnaaGreatDoorProg
import Derived.KernelRfl
import Derived.Lib.AtoiErrMem
import Derived.Shelf.Small.Strs
import Derived.Shelf.Strconv.Itoa3
import Derived.Shelf.Strconv.ParseInt10All
import Derived.Shelf.Strings.Builder1
import Derived.Shelf.Strings.Count
import Derived.Shelf.Strings.Search1
import Derived.Shelf.Strings.Search2
import Derived.Shelf.Strings.SlTrimAscii
set_option linter.unusedVariables false
set_option linter.unusedSimpArgs false
namespace Gx
open Go
abbrev N8:Nat:=172
abbrev GL:Nat:=173
abbrev KBz:Nat:=171
abbrev zo:Nat:=209
abbrev N9:Nat:=210
abbrev Vh:Nat:=211
abbrev Wo:Nat:=262
abbrev Wa:Nat:=271
abbrev Vi:Nat:=140
abbrev KFc:Nat:=13
abbrev KB0:Nat:=179
abbrev KAS:Nat:=177
abbrev KB1:Nat:=54
abbrev KB2:Nat:=212
abbrev VB:Nat:=92
abbrev ND:Nat:=93
abbrev KC3:Nat:=178
abbrev KC4:Nat:=253
abbrev KA8:Nat:=258
abbrev KD8:Nat:=260
abbrev GM:Nat:=15
abbrev GN:Nat:=214
abbrev Xg:Nat:=229
abbrev NE:Nat:=186
abbrev GO:Nat:=33
abbrev Jm:Nat:=74
abbrev qA:Nat:=57
abbrev NF:Nat:=55
abbrev GP:Nat:=97
abbrev Wb:Nat:=215
abbrev YQ:Nat:=129
abbrev YR:Nat:=181
abbrev Z8:Nat:=187
abbrev YS:Nat:=185
abbrev Wp:Nat:=183
abbrev Yh:Nat:=184
abbrev ZY:Nat:=128
abbrev qB:Nat:=58
abbrev Jx:Nat:=109
abbrev GQ:Nat:=182
abbrev qC:Nat:=230
abbrev Xh:Nat:=101
abbrev Uj:Nat:=70
abbrev qD:Nat:=117
abbrev GR:Nat:=110
abbrev NG:Nat:=118
abbrev GS:Nat:=23
abbrev qE:Nat:=14
abbrev GT:Nat:=127
abbrev GU:Nat:=47
abbrev Xi:Nat:=94
abbrev NH:Nat:=56
abbrev qF:Nat:=48
abbrev Xj:Nat:=96
abbrev NI:Nat:=95
abbrev Zr:Nat:=175
abbrev UQ:Nat:=165
abbrev Vc:Nat:=257
abbrev VC:Nat:=16
abbrev Ug:Nat:=205
abbrev WC:Nat:=261
abbrev NJ:Nat:=259
abbrev GV:Nat:=267
abbrev XE:Nat:=268
abbrev Xk:Nat:=266
abbrev XV:Nat:=265
abbrev qG:Nat:=263
abbrev qH:Nat:=174
abbrev GW:Nat:=100
abbrev KAT:Nat:=99
abbrev KA9:Nat:=153
abbrev XQ:Nat:=124
abbrev KB3:Nat:=53
abbrev KBA:Nat:=180
abbrev KC5:Nat:=201
abbrev KBB:Nat:=221
abbrev Wq:Nat:=213
abbrev Wh:Nat:=246
abbrev Ur:Nat:=227
abbrev zi:Nat:=23
abbrev KP:Nat:=29
abbrev KE:Nat:=54
abbrev KAU:Nat:=4
abbrev XR:Nat:=3
abbrev Kk:Nat:=265
abbrev G8:Nat:=70
abbrev Wc:Nat:=68
abbrev Jy:Nat:=268
abbrev ZJ:Nat:=161
abbrev UH:Nat:=22
abbrev NK:Nat:=273
abbrev qI:Nat:=82
abbrev Zm:Nat:=5
abbrev W9:Nat:=233
abbrev Zw:Nat:=229
theorem mo:Go.Proofs.Tryz.prog.follows .mixedOrders=true:=by kernel_rfl
theorem un22:Go.Proofs.Tryz.prog.underlying 22=some (.slice 29):=by kernel_rfl
theorem un3:Go.Proofs.Tryz.prog.underlying 3=some (.int .i64):=by kernel_rfl
theorem un44:Go.Proofs.Tryz.prog.underlying 44=some (.slice 5):=by kernel_rfl
theorem un5:Go.Proofs.Tryz.prog.underlying 5=some (.int .u8):=by kernel_rfl
theorem un52:Go.Proofs.Tryz.prog.underlying 52=some (.slice 54):=by kernel_rfl
theorem un9:Go.Proofs.Tryz.prog.underlying 9=some (.string):=by kernel_rfl
theorem zr22:((Go.Proofs.Tryz.prog.info? 22).bind (·.zero))=some (.slice none 0 0):=by kernel_rfl
theorem KLM:((Go.Proofs.Tryz.prog.info? 229).bind (·.zero))=some (.agg (#[.int .i64 0]:Array Value)):=by kernel_rfl
theorem zr23:((Go.Proofs.Tryz.prog.info? 23).bind (·.zero))=some (.int .i64 0):=by kernel_rfl
theorem zr29:((Go.Proofs.Tryz.prog.info? 29).bind (·.zero))=some (.agg (#[.int .i64 0,.string ByteArray.empty,.int .i64 0,.int .i64 0]:Array Value)):=by kernel_rfl
theorem zr3:((Go.Proofs.Tryz.prog.info? 3).bind (·.zero))=some (.int .i64 0):=by kernel_rfl
theorem zr5:((Go.Proofs.Tryz.prog.info? 5).bind (·.zero))=some (.int .u8 0):=by kernel_rfl
theorem zr54:((Go.Proofs.Tryz.prog.info? 54).bind (·.zero))=some (.agg (#[.int .i64 0,.int .i64 0,.string ByteArray.empty,.slice none 0 0]:Array Value)):=by kernel_rfl
theorem zr70:((Go.Proofs.Tryz.prog.info? 70).bind (·.zero))=some (.agg (#[.string ByteArray.empty,.int .i64 0]:Array Value)):=by kernel_rfl
theorem ag29:agB Go.Proofs.Tryz.prog 29 4=true:=by kernel_rfl
theorem ag54:agB Go.Proofs.Tryz.prog 54 4=true:=by kernel_rfl
theorem ap22:apB Go.Proofs.Tryz.prog 22 29 4 40 (#[.int .i64 0,.string ByteArray.empty,.int .i64 0,.int .i64 0]:Array Value):=⟨un22,Xe (by kernel_rfl)⟩
theorem ap44:apB Go.Proofs.Tryz.prog 44 5 1 1 (#[.int .u8 0]:Array Value):=⟨un44,Xe (by kernel_rfl)⟩
theorem ap52:apB Go.Proofs.Tryz.prog 52 54 4 56 (#[.int .i64 0,.int .i64 0,.string ByteArray.empty,.slice none 0 0]:Array Value):=⟨un52,Xe (by kernel_rfl)⟩
theorem bd29:∀ w,(Instr.build 29 #[]).run Go.Proofs.Tryz.prog w=.ok (.agg (#[.int .i64 0,.string ByteArray.empty,.int .i64 0,.int .i64 0]:Array Value)) w:=fun w=>by kernel_rfl
theorem bd54:∀ w,(Instr.build 54 #[]).run Go.Proofs.Tryz.prog w=.ok (.agg (#[.int .i64 0,.int .i64 0,.string ByteArray.empty,.slice none 0 0]:Array Value)) w:=fun w=>by kernel_rfl
theorem qJ:Callee? Go.Proofs.Tryz.prog 172:=KH Go.Proofs.Tryz.func172 (by kernel_rfl) rfl
theorem GX:Callee? Go.Proofs.Tryz.prog 173:=KH Go.Proofs.Tryz.func173 (by kernel_rfl) rfl
theorem KB4:Callee? Go.Proofs.Tryz.prog 171:=KH Go.Proofs.Tryz.func171 (by kernel_rfl) rfl
theorem zp:Callee? Go.Proofs.Tryz.prog 209:=KH Go.Proofs.Tryz.func209 (by kernel_rfl) rfl
theorem qK:Callee? Go.Proofs.Tryz.prog 210:=KH Go.Proofs.Tryz.func210 (by kernel_rfl) rfl
theorem Vj:Callee? Go.Proofs.Tryz.prog 211:=KH Go.Proofs.Tryz.func211 (by kernel_rfl) rfl
theorem Wr:Callee? Go.Proofs.Tryz.prog 262:=KH Go.Proofs.Tryz.func262 (by kernel_rfl) rfl
theorem Wd:Callee? Go.Proofs.Tryz.prog 271:=KH Go.Proofs.Tryz.func271 (by kernel_rfl) rfl
theorem Vk:Callee? Go.Proofs.Tryz.prog 140:=KH Go.Proofs.Tryz.func140 (by kernel_rfl) rfl
theorem KC6:Callee? Go.Proofs.Tryz.prog 22:=KH Go.Proofs.Tryz.func22 (by kernel_rfl) rfl
theorem KFd:Callee? Go.Proofs.Tryz.prog 13:=KH Go.Proofs.Tryz.func13 (by kernel_rfl) rfl
theorem KB5:Callee? Go.Proofs.Tryz.prog 179:=KH Go.Proofs.Tryz.func179 (by kernel_rfl) rfl
theorem KAV:Callee? Go.Proofs.Tryz.prog 177:=KH Go.Proofs.Tryz.func177 (by kernel_rfl) rfl
theorem KB6:Callee? Go.Proofs.Tryz.prog 54:=KH Go.Proofs.Tryz.func54 (by kernel_rfl) rfl
theorem KB7:Callee? Go.Proofs.Tryz.prog 212:=KH Go.Proofs.Tryz.func212 (by kernel_rfl) rfl
theorem KBX:Callee? Go.Proofs.Tryz.prog 126:=KH Go.Proofs.Tryz.func126 (by kernel_rfl) rfl
theorem qL:Callee? Go.Proofs.Tryz.prog 45:=KH Go.Proofs.Tryz.func45 (by kernel_rfl) rfl
theorem GY:Callee? Go.Proofs.Tryz.prog 92:=KH Go.Proofs.Tryz.func92 (by kernel_rfl) rfl
theorem WL:Callee? Go.Proofs.Tryz.prog 46:=KH Go.Proofs.Tryz.func46 (by kernel_rfl) rfl
theorem NL:Callee? Go.Proofs.Tryz.prog 93:=KH Go.Proofs.Tryz.func93 (by kernel_rfl) rfl
theorem KC7:Callee? Go.Proofs.Tryz.prog 178:=KH Go.Proofs.Tryz.func178 (by kernel_rfl) rfl
theorem KC8:Callee? Go.Proofs.Tryz.prog 253:=KH Go.Proofs.Tryz.func253 (by kernel_rfl) rfl
theorem KBC:Callee? Go.Proofs.Tryz.prog 258:=KH Go.Proofs.Tryz.func258 (by kernel_rfl) rfl
theorem KD9:Callee? Go.Proofs.Tryz.prog 260:=KH Go.Proofs.Tryz.func260 (by kernel_rfl) rfl
theorem GZ:Callee? Go.Proofs.Tryz.prog 15:=KH Go.Proofs.Tryz.func15 (by kernel_rfl) rfl
theorem Ga:Callee? Go.Proofs.Tryz.prog 214:=KH Go.Proofs.Tryz.func214 (by kernel_rfl) rfl
theorem Xl:Callee? Go.Proofs.Tryz.prog 229:=KH Go.Proofs.Tryz.func229 (by kernel_rfl) rfl
theorem NM:Callee? Go.Proofs.Tryz.prog 186:=KH Go.Proofs.Tryz.func186 (by kernel_rfl) rfl
theorem Gb:Callee? Go.Proofs.Tryz.prog 33:=KH Go.Proofs.Tryz.func33 (by kernel_rfl) rfl
theorem V1:Callee? Go.Proofs.Tryz.prog 74:=KH Go.Proofs.Tryz.func74 (by kernel_rfl) rfl
theorem qM:Callee? Go.Proofs.Tryz.prog 57:=KH Go.Proofs.Tryz.func57 (by kernel_rfl) rfl
theorem NN:Callee? Go.Proofs.Tryz.prog 55:=KH Go.Proofs.Tryz.func55 (by kernel_rfl) rfl
theorem Gc:Callee? Go.Proofs.Tryz.prog 97:=KH Go.Proofs.Tryz.func97 (by kernel_rfl) rfl
theorem We:Callee? Go.Proofs.Tryz.prog 215:=KH Go.Proofs.Tryz.func215 (by kernel_rfl) rfl
theorem YT:Callee? Go.Proofs.Tryz.prog 129:=KH Go.Proofs.Tryz.func129 (by kernel_rfl) rfl
theorem YU:Callee? Go.Proofs.Tryz.prog 181:=KH Go.Proofs.Tryz.func181 (by kernel_rfl) rfl
theorem YV:Callee? Go.Proofs.Tryz.prog 187:=KH Go.Proofs.Tryz.func187 (by kernel_rfl) rfl
theorem YW:Callee? Go.Proofs.Tryz.prog 185:=KH Go.Proofs.Tryz.func185 (by kernel_rfl) rfl
theorem Ws:Callee? Go.Proofs.Tryz.prog 183:=KH Go.Proofs.Tryz.func183 (by kernel_rfl) rfl
theorem Yi:Callee? Go.Proofs.Tryz.prog 184:=KH Go.Proofs.Tryz.func184 (by kernel_rfl) rfl
theorem Us:Callee? Go.Proofs.Tryz.prog 128:=KH Go.Proofs.Tryz.func128 (by kernel_rfl) rfl
theorem qN:Callee? Go.Proofs.Tryz.prog 58:=KH Go.Proofs.Tryz.func58 (by kernel_rfl) rfl
theorem qO:Callee? Go.Proofs.Tryz.prog 109:=KH Go.Proofs.Tryz.func109 (by kernel_rfl) rfl
theorem Gd:Callee? Go.Proofs.Tryz.prog 182:=KH Go.Proofs.Tryz.func182 (by kernel_rfl) rfl
theorem qP:Callee? Go.Proofs.Tryz.prog 230:=KH Go.Proofs.Tryz.func230 (by kernel_rfl) rfl
theorem Xm:Callee? Go.Proofs.Tryz.prog 101:=KH Go.Proofs.Tryz.func101 (by kernel_rfl) rfl
theorem Yd:Callee? Go.Proofs.Tryz.prog 70:=KH Go.Proofs.Tryz.func70 (by kernel_rfl) rfl
theorem qQ:Callee? Go.Proofs.Tryz.prog 117:=KH Go.Proofs.Tryz.func117 (by kernel_rfl) rfl
theorem Ge:Callee? Go.Proofs.Tryz.prog 110:=KH Go.Proofs.Tryz.func110 (by kernel_rfl) rfl
theorem NO:Callee? Go.Proofs.Tryz.prog 118:=KH Go.Proofs.Tryz.func118 (by kernel_rfl) rfl
theorem Gf:Callee? Go.Proofs.Tryz.prog 23:=KH Go.Proofs.Tryz.func23 (by kernel_rfl) rfl
theorem qR:Callee? Go.Proofs.Tryz.prog 14:=KH Go.Proofs.Tryz.func14 (by kernel_rfl) rfl
theorem Gg:Callee? Go.Proofs.Tryz.prog 127:=KH Go.Proofs.Tryz.func127 (by kernel_rfl) rfl
theorem Gh:Callee? Go.Proofs.Tryz.prog 47:=KH Go.Proofs.Tryz.func47 (by kernel_rfl) rfl
theorem Xn:Callee? Go.Proofs.Tryz.prog 94:=KH Go.Proofs.Tryz.func94 (by kernel_rfl) rfl
theorem NP:Callee? Go.Proofs.Tryz.prog 56:=KH Go.Proofs.Tryz.func56 (by kernel_rfl) rfl
theorem qS:Callee? Go.Proofs.Tryz.prog 48:=KH Go.Proofs.Tryz.func48 (by kernel_rfl) rfl
theorem Xo:Callee? Go.Proofs.Tryz.prog 96:=KH Go.Proofs.Tryz.func96 (by kernel_rfl) rfl
theorem NQ:Callee? Go.Proofs.Tryz.prog 95:=KH Go.Proofs.Tryz.func95 (by kernel_rfl) rfl
theorem Zs:Callee? Go.Proofs.Tryz.prog 175:=KH Go.Proofs.Tryz.func175 (by kernel_rfl) rfl
theorem UR:Callee? Go.Proofs.Tryz.prog 165:=KH Go.Proofs.Tryz.func165 (by kernel_rfl) rfl
theorem Vd:Callee? Go.Proofs.Tryz.prog 257:=KH Go.Proofs.Tryz.func257 (by kernel_rfl) rfl
theorem VD:Callee? Go.Proofs.Tryz.prog 16:=KH Go.Proofs.Tryz.func16 (by kernel_rfl) rfl
theorem Uh:Callee? Go.Proofs.Tryz.prog 205:=KH Go.Proofs.Tryz.func205 (by kernel_rfl) rfl
theorem WD:Callee? Go.Proofs.Tryz.prog 261:=KH Go.Proofs.Tryz.func261 (by kernel_rfl) rfl
theorem NR:Callee? Go.Proofs.Tryz.prog 259:=KH Go.Proofs.Tryz.func259 (by kernel_rfl) rfl
theorem Gi:Callee? Go.Proofs.Tryz.prog 267:=KH Go.Proofs.Tryz.func267 (by kernel_rfl) rfl
theorem XF:Callee? Go.Proofs.Tryz.prog 268:=KH Go.Proofs.Tryz.func268 (by kernel_rfl) rfl
theorem Xp:Callee? Go.Proofs.Tryz.prog 266:=KH Go.Proofs.Tryz.func266 (by kernel_rfl) rfl
theorem XW:Callee? Go.Proofs.Tryz.prog 265:=KH Go.Proofs.Tryz.func265 (by kernel_rfl) rfl
theorem qT:Callee? Go.Proofs.Tryz.prog 263:=KH Go.Proofs.Tryz.func263 (by kernel_rfl) rfl
theorem qU:Callee? Go.Proofs.Tryz.prog 174:=KH Go.Proofs.Tryz.func174 (by kernel_rfl) rfl
theorem VE:Callee? Go.Proofs.Tryz.prog 100:=KH Go.Proofs.Tryz.func100 (by kernel_rfl) rfl
theorem KAW:Callee? Go.Proofs.Tryz.prog 99:=KH Go.Proofs.Tryz.func99 (by kernel_rfl) rfl
theorem qV:Callee? Go.Proofs.Tryz.prog 152:=KH Go.Proofs.Tryz.func152 (by kernel_rfl) rfl
theorem KBD:Callee? Go.Proofs.Tryz.prog 153:=KH Go.Proofs.Tryz.func153 (by kernel_rfl) rfl
theorem XS:Callee? Go.Proofs.Tryz.prog 124:=KH Go.Proofs.Tryz.func124 (by kernel_rfl) rfl
theorem KC9:Callee? Go.Proofs.Tryz.prog 51:=KH Go.Proofs.Tryz.func51 (by kernel_rfl) rfl
theorem KB8:Callee? Go.Proofs.Tryz.prog 53:=KH Go.Proofs.Tryz.func53 (by kernel_rfl) rfl
theorem KBE:Callee? Go.Proofs.Tryz.prog 180:=KH Go.Proofs.Tryz.func180 (by kernel_rfl) rfl
theorem KDA:Callee? Go.Proofs.Tryz.prog 52:=KH Go.Proofs.Tryz.func52 (by kernel_rfl) rfl
theorem Yj:Callee? Go.Proofs.Tryz.prog 241:=KH Go.Proofs.Tryz.func241 (by kernel_rfl) rfl
theorem KDB:Callee? Go.Proofs.Tryz.prog 201:=KH Go.Proofs.Tryz.func201 (by kernel_rfl) rfl
theorem KBF:Callee? Go.Proofs.Tryz.prog 221:=KH Go.Proofs.Tryz.func221 (by kernel_rfl) rfl
theorem KB9:Callee? Go.Proofs.Tryz.prog 213:=KH Go.Proofs.Tryz.func213 (by kernel_rfl) rfl
theorem Vm:Callee? Go.Proofs.Tryz.prog 245:=KH Go.Proofs.Tryz.func245 (by kernel_rfl) rfl
theorem XG:Callee? Go.Proofs.Tryz.prog 254:=KH Go.Proofs.Tryz.func254 (by kernel_rfl) rfl
theorem K0:Callee? Go.Proofs.Tryz.prog 228:=KH Go.Proofs.Tryz.func228 (by kernel_rfl) rfl
theorem Kj:Callee? Go.Proofs.Tryz.prog 240:=KH Go.Proofs.Tryz.func240 (by kernel_rfl) rfl
theorem Wi:Callee? Go.Proofs.Tryz.prog 246:=KH Go.Proofs.Tryz.func246 (by kernel_rfl) rfl
theorem ZP:Callee? Go.Proofs.Tryz.prog 244:=KH Go.Proofs.Tryz.func244 (by kernel_rfl) rfl
theorem V7:Callee? Go.Proofs.Tryz.prog 242:=KH Go.Proofs.Tryz.func242 (by kernel_rfl) rfl
theorem NS:Callee? Go.Proofs.Tryz.prog 243:=KH Go.Proofs.Tryz.func243 (by kernel_rfl) rfl
theorem Ut:Callee? Go.Proofs.Tryz.prog 227:=KH Go.Proofs.Tryz.func227 (by kernel_rfl) rfl
theorem Wf:KA3 Go.Proofs.Tryz.prog 233 0=some 0:=by kernel_rfl
theorem ZT:KA3 Go.Proofs.Tryz.prog 233 1=some 1:=by kernel_rfl
theorem KI0:KA3 Go.Proofs.Tryz.prog 29 3=some 3:=by kernel_rfl
theorem KLN:KA3 Go.Proofs.Tryz.prog 70 0=some 0:=by kernel_rfl
theorem KDC:KA3 Go.Proofs.Tryz.prog 70 1=some 1:=by kernel_rfl
theorem KMK:niB Go.Proofs.Tryz.prog 229=true:=by kernel_rfl
theorem KML:Wm Go.Proofs.Tryz.prog 229=some [(0,1)]:=by kernel_rfl
theorem pl54:Wm Go.Proofs.Tryz.prog 54=some [(0,1),(1,1),(2,1),(3,1)]:=by kernel_rfl
theorem pl70:Wm Go.Proofs.Tryz.prog 70=some [(0,1),(1,1)]:=by kernel_rfl
theorem sc22:scB Go.Proofs.Tryz.prog 22=true:=by kernel_rfl
theorem sc23:scB Go.Proofs.Tryz.prog 23=true:=by kernel_rfl
theorem sc3:scB Go.Proofs.Tryz.prog 3=true:=by kernel_rfl
theorem sc9:scB Go.Proofs.Tryz.prog 9=true:=by kernel_rfl
theorem sz22:szB Go.Proofs.Tryz.prog 22 1=true:=by kernel_rfl
theorem sz23:szB Go.Proofs.Tryz.prog 23 1=true:=by kernel_rfl
theorem sz29:szB Go.Proofs.Tryz.prog 29 4=true:=by kernel_rfl
theorem sz3:szB Go.Proofs.Tryz.prog 3 1=true:=by kernel_rfl
theorem sz5:szB Go.Proofs.Tryz.prog 5 1=true:=by kernel_rfl
theorem sz54:szB Go.Proofs.Tryz.prog 54 4=true:=by kernel_rfl
end Gx
namespace Gx
open Go Go.Proofs Go.Shelf Go.Sort Go.RowKit
set_option linter.unusedVariables false
set_option linter.unusedSimpArgs false
set_option maxRecDepth 100000
def KEu:Go.Shelf.Ren:=⟨fun | 119=>236 | 120=>220 | 129=>248 | 137=>100 | 138=>207 | 143=>208 | 151=>192 | 152=>219 | 160=>99 | 195=>222 | 197=>191 | 213=>211 | 217=>140 | 218=>223 | 219=>224 | 224=>237 | 225=>238 | 227=>135 | 228=>190 | 231=>133 | 232=>134 | 233=>136 | 234=>137 | 235=>138 | 236=>139 | 240=>102 | 246=>216 | 247=>262 | 260=>218 | 265=>225 | 266=>194 | 267=>239 | 271=>193 | 276=>141 | 283=>231 | 284=>232 | 285=>233 | 286=>234 | 287=>264 | 314=>252 | 317=>247 | 318=>249 | 319=>250 | 320=>251 | 321=>269 | 322=>270 | 337=>255 | 338=>256 | n=>n,fun | 0=>0 | 2=>2 | 3=>3 | 4=>4 | 5=>5 | 9=>9 | 20=>20 | 21=>21 | 37=>44 | 46=>210 | 51=>251 | 53=>216 | 70=>80 | 72=>82 | 75=>84 | 80=>88 | 105=>211 | 116=>166 | 117=>167 | 119=>242 | 124=>170 | 138=>244 | 139=>245 | 146=>254 | 164=>171 | 167=>265 | 171=>236 | 173=>239 | 175=>266 | 212=>250 | 213=>252 | 232=>261 | 233=>262 | n=>n,fun | 1=>0 | 3=>1 | 4=>2 | 17=>3 | 18=>4 | 19=>5 | n=>n⟩
theorem KCA:Lays.n213 Go.Proofs.Tryz.prog KEu:={
 mixed:=by kernel_rfl
 f213:=Tryz.func211.trans (congrArg some (by kernel_rfl))
 f265:=Tryz.func225.trans (congrArg some (by kernel_rfl))
 t3:=Tryz.underlying3
 a3:=Tryz.isAgg3
 z3:=Tryz.sizeOf3
 v3:=Tryz.zeroValue3
 t9:=Tryz.underlying9
 a9:=Tryz.isAgg9
 z9:=Tryz.sizeOf9
 v9:=Tryz.zeroValue9 }
theorem KCB:Lays.n217 Go.Proofs.Tryz.prog KEu:={
 mixed:=by kernel_rfl
 f217:=Tryz.func140.trans (congrArg some (by kernel_rfl))
 f266:=Tryz.func194.trans (congrArg some (by kernel_rfl))
 t3:=Tryz.underlying3
 a3:=Tryz.isAgg3
 z3:=Tryz.sizeOf3
 v3:=Tryz.zeroValue3
 t5:=Tryz.underlying5
 a5:=Tryz.isAgg5
 z5:=Tryz.sizeOf5
 v5:=Tryz.zeroValue5
 t9:=Tryz.underlying9
 a9:=Tryz.isAgg9
 z9:=Tryz.sizeOf9
 v9:=Tryz.zeroValue9 }
theorem KBG:LaysC.n247 Go.Proofs.Tryz.prog KEu:={
 mixed:=by kernel_rfl
 f247:=Tryz.func262.trans (congrArg some (by kernel_rfl))
 f287:=Tryz.func264.trans (congrArg some (by kernel_rfl))
 f321:=Tryz.func269.trans (congrArg some (by kernel_rfl))
 f322:=Tryz.func270.trans (congrArg some (by kernel_rfl))
 t0:=Tryz.underlying0
 a0:=Tryz.isAgg0
 z0:=Tryz.sizeOf0
 v0:=Tryz.zeroValue0
 t2:=Tryz.underlying2
 a2:=Tryz.isAgg2
 z2:=Tryz.sizeOf2
 v2:=Tryz.zeroValue2
 t3:=Tryz.underlying3
 a3:=Tryz.isAgg3
 z3:=Tryz.sizeOf3
 v3:=Tryz.zeroValue3
 t4:=Tryz.underlying4
 a4:=Tryz.isAgg4
 z4:=Tryz.sizeOf4
 v4:=Tryz.zeroValue4
 t5:=Tryz.underlying5
 a5:=Tryz.isAgg5
 z5:=Tryz.sizeOf5
 v5:=Tryz.zeroValue5
 t9:=Tryz.underlying9
 a9:=Tryz.isAgg9
 z9:=Tryz.sizeOf9
 v9:=Tryz.zeroValue9
 t21:=Tryz.underlying21
 a21:=Tryz.isAgg21
 z21:=Tryz.sizeOf21
 v21:=Tryz.zeroValue21
 t37:=Tryz.underlying44
 a37:=Tryz.isAgg44
 z37:=Tryz.sizeOf44
 v37:=Tryz.zeroValue44
 t46:=Tryz.underlying210
 a46:=Tryz.isAgg210
 z46:=Tryz.sizeOf210
 v46:=Tryz.zeroValue210
 t53:=Tryz.underlying216
 a53:=Tryz.isAgg216
 z53:=Tryz.sizeOf216
 v53:=Tryz.zeroValue216
 t75:=Tryz.underlying84
 a75:=Tryz.isAgg84
 z75:=Tryz.sizeOf84
 v75:=Tryz.zeroValue84
 t167:=Tryz.underlying265
 a167:=Tryz.isAgg265
 z167:=Tryz.sizeOf265
 v167:=Tryz.zeroValue265
 t175:=Tryz.underlying266
 a175:=Tryz.isAgg266
 z175:=Tryz.sizeOf266
 v175:=Tryz.zeroValue266
 t80:=Tryz.underlying88
 a80:=Tryz.isAgg88
 z80:=Tryz.sizeOf88
 v80:=Tryz.zeroValue88
 i0:=by kernel_rfl
 i2:=by kernel_rfl
 i3:=by kernel_rfl
 i4:=by kernel_rfl
 i5:=by kernel_rfl
 i9:=by kernel_rfl
 i21:=by kernel_rfl
 i37:=by kernel_rfl
 i46:=by kernel_rfl
 i53:=by kernel_rfl
 i75:=by kernel_rfl
 i80:=by kernel_rfl
 i167:=by kernel_rfl
 i175:=by kernel_rfl
 c0:=by kernel_rfl
 c2:=by kernel_rfl
 c3:=by kernel_rfl
 c4:=by kernel_rfl
 c5:=by kernel_rfl
 c9:=by kernel_rfl
 c21:=by kernel_rfl
 c37:=by kernel_rfl
 c46:=by kernel_rfl
 c53:=by kernel_rfl
 c75:=by kernel_rfl
 c80:=by kernel_rfl
 c167:=by kernel_rfl
 c175:=by kernel_rfl }
theorem KCC:Lays.n160 Go.Proofs.Tryz.prog KEu:={
 mixed:=by kernel_rfl
 f119:=Tryz.func236.trans (congrArg some (by kernel_rfl))
 f120:=Tryz.func220.trans (congrArg some (by kernel_rfl))
 f137:=Tryz.func100.trans (congrArg some (by kernel_rfl))
 f151:=Tryz.func192.trans (congrArg some (by kernel_rfl))
 f152:=Tryz.func219.trans (congrArg some (by kernel_rfl))
 f160:=Tryz.func99.trans (congrArg some (by kernel_rfl))
 f197:=Tryz.func191.trans (congrArg some (by kernel_rfl))
 f217:=Tryz.func140.trans (congrArg some (by kernel_rfl))
 f224:=Tryz.func237.trans (congrArg some (by kernel_rfl))
 f225:=Tryz.func238.trans (congrArg some (by kernel_rfl))
 f227:=Tryz.func135.trans (congrArg some (by kernel_rfl))
 f228:=Tryz.func190.trans (congrArg some (by kernel_rfl))
 f231:=Tryz.func133.trans (congrArg some (by kernel_rfl))
 f232:=Tryz.func134.trans (congrArg some (by kernel_rfl))
 f233:=Tryz.func136.trans (congrArg some (by kernel_rfl))
 f234:=Tryz.func137.trans (congrArg some (by kernel_rfl))
 f235:=Tryz.func138.trans (congrArg some (by kernel_rfl))
 f236:=Tryz.func139.trans (congrArg some (by kernel_rfl))
 f260:=Tryz.func218.trans (congrArg some (by kernel_rfl))
 f266:=Tryz.func194.trans (congrArg some (by kernel_rfl))
 f271:=Tryz.func193.trans (congrArg some (by kernel_rfl))
 t0:=Tryz.underlying0
 a0:=Tryz.isAgg0
 z0:=Tryz.sizeOf0
 v0:=Tryz.zeroValue0
 t3:=Tryz.underlying3
 a3:=Tryz.isAgg3
 z3:=Tryz.sizeOf3
 v3:=Tryz.zeroValue3
 t4:=Tryz.underlying4
 a4:=Tryz.isAgg4
 z4:=Tryz.sizeOf4
 v4:=Tryz.zeroValue4
 t5:=Tryz.underlying5
 a5:=Tryz.isAgg5
 z5:=Tryz.sizeOf5
 v5:=Tryz.zeroValue5
 t9:=Tryz.underlying9
 a9:=Tryz.isAgg9
 z9:=Tryz.sizeOf9
 v9:=Tryz.zeroValue9
 t21:=Tryz.underlying21
 a21:=Tryz.isAgg21
 z21:=Tryz.sizeOf21
 v21:=Tryz.zeroValue21
 t46:=Tryz.underlying210
 a46:=Tryz.isAgg210
 z46:=Tryz.sizeOf210
 v46:=Tryz.zeroValue210
 t105:=Tryz.underlying211
 a105:=Tryz.isAgg211
 z105:=Tryz.sizeOf211
 v105:=Tryz.zeroValue211
 t116:=Tryz.underlying166
 a116:=Tryz.isAgg166
 z116:=Tryz.sizeOf166
 t117:=Tryz.underlying167
 a117:=Tryz.isAgg167
 z117:=Tryz.sizeOf167
 v117:=Tryz.zeroValue167
 t119:=Tryz.underlying242
 a119:=Tryz.isAgg242
 z119:=Tryz.sizeOf242
 t124:=Tryz.underlying170
 a124:=Tryz.isAgg170
 z124:=Tryz.sizeOf170
 v124:=Tryz.zeroValue170
 t138:=Tryz.underlying244
 a138:=Tryz.isAgg244
 z138:=Tryz.sizeOf244
 v138:=Tryz.zeroValue244
 t139:=Tryz.underlying245
 a139:=Tryz.isAgg245
 z139:=Tryz.sizeOf245
 v139:=Tryz.zeroValue245
 g3:=by kernel_rfl
 g4:=by kernel_rfl }
def Zh (x0 x1:ByteArray):M Int:=M.pure (Lib.compareBytes x0.data.toList x1.data.toList)
theorem Vy (x0 x1:ByteArray):Kz Go.Proofs.Tryz.prog 211 #[.string x0,.string x1] (fun (r:Int)=>.int .i64 r) (Zh x0 x1):=by
 intro w Q H
 refine (Any.bytealg_CompareString KCA x0 x1 w).mono ?_
 rintro e w' ⟨rfl,rfl⟩
 exact ⟨_,rfl,H,Rest.refl _⟩
def ZK (x0:ByteArray) (x1:Int):M Int:=M.pure (Lib.indexByte x0.data.toList x1.toNat.toUInt8)
theorem Vz (x0:ByteArray) (x1:Int):Kz Go.Proofs.Tryz.prog 140 #[.string x0,.int .u8 x1] (fun (r:Int)=>.int .i64 r) (ZK x0 x1):=by
 intro w Q H
 refine (Any.stringslite_IndexByte KCB x0 x1 w).mono ?_
 rintro e w' ⟨rfl,rfl⟩
 exact ⟨_,rfl,H,Rest.refl _⟩
def J9 (x0:ByteArray) (x1:Int) (x2:Int):M (Int × Value) :=
 ⟨fun h Q=>x1=10∧x2=64∧x0.size≤9223372036854775806∧∀ h':Heap,h.size≤h'.size→(∀ i,i < h.size→h'[i]?=h[i]?)→(match Lib.parseIntB 64 x0.data.toList with | .ok v=>Q (v,.nilIface) h' | .range=>Q (Lib.intSat 64 x0.data.toList,.iface 265 (.int .i64 1)) h' | _=>Q (0,.iface 265 (.int .i64 2)) h'),
  fun hq ⟨h0,h1,h2,h3⟩=>⟨h0,h1,h2,fun h' a b=>by have h5:=h3 h' a b; revert h5; cases Lib.parseIntB 64 x0.data.toList <;> exact fun h5=>hq _ _ h5⟩⟩
theorem YA (x0:ByteArray) (x1:Int) (x2:Int):Kz Go.Proofs.Tryz.prog 262 #[.string x0,.int .i64 x1,.int .i64 x2] (fun (r:Int × Value)=>.tuple #[.int .i64 r.1,r.2]) (J9 x0 x1 x2):=by
 intro w Q ⟨h0,h1,h2,h4⟩
 subst h0
 subst h1
 refine (Any.internal_strconv_ParseInt_10_all64 KBG x0 h2 w).mono ?_
 rintro e w' ⟨rfl,hw⟩
 have hb:w.heap.size≤w'.heap.size∧(∀ i,i < w.heap.size→w'.heap[i]?=w.heap[i]?)∧Rest w w':=by
  rcases hw with rfl | ⟨t,rfl⟩
  ·exact ⟨Nat.le_refl _,fun _ _=>rfl,Rest.refl _⟩
  ·have hb:=Lib.bytesWorld_below w (5) t
   exact ⟨hb.size,hb.block,⟨hb.os,hb.output,hb.tape,Nat.le_succ w.drawn⟩⟩
 obtain ⟨b1,b2,b3⟩:=hb
 have h5:=h4 _ b1 b2
 cases hp:Lib.parseIntB 64 x0.data.toList <;> (rw [hp] at h5; exact ⟨_,rfl,h5,b3⟩)
def VS (x0:ByteArray) (x1:ByteArray):M (Option Addr):=M.fail
theorem Xq (x0:ByteArray) (x1:ByteArray):Kz Go.Proofs.Tryz.prog 265 #[.string x0,.string x1] (fun (r:Option Addr)=>.pointer r) (VS x0 x1):=fun w Q H=>H.elim
def WE (x0:ByteArray) (x1:ByteArray) (x2:Int):M (Option Addr):=M.fail
theorem NT (x0:ByteArray) (x1:ByteArray) (x2:Int):Kz Go.Proofs.Tryz.prog 267 #[.string x0,.string x1,.int .i64 x2] (fun (r:Option Addr)=>.pointer r) (WE x0 x1 x2):=fun w Q H=>H.elim
def VF (x0:ByteArray) (x1:ByteArray) (x2:Int):M (Option Addr):=M.fail
theorem XX (x0:ByteArray) (x1:ByteArray) (x2:Int):Kz Go.Proofs.Tryz.prog 268 #[.string x0,.string x1,.int .i64 x2] (fun (r:Option Addr)=>.pointer r) (VF x0 x1 x2):=fun w Q H=>H.elim
def KDD (h:Heap):Prop:=∃ fz ty,h[3]?=some (.cells (Lib.pow10Tab.map fun z=>Value.int .u64 z).toArray ty fz)
def KGX (h:Heap):Prop:=∃ cs ty fz,h[5]?=some (.cells cs ty fz)∧cs[15]?=some (.int .u8 4)
def Va (x0 x1:ByteArray):M ByteArray :=
 ⟨fun h Q=>2≤x1.size∧x1.size < 4294967281∧0 < x0.size∧x0.size≤9223372036854775807∧(∀ (j:Nat) b,x1.data.toList[j]?=some b→b.toNat < 128)∧∀ h':Heap,h.size≤h'.size→(∀ i,i < h.size→h'[i]?=h[i]?)→Q ⟨(Lib.trimS x0.data.toList x1.data.toList).toArray⟩ h',
  fun hq ⟨h0,h1,h2,h3,h4,h5⟩=>⟨h0,h1,h2,h3,h4,fun h' a b=>hq _ _ (h5 h' a b)⟩⟩
theorem KBH (x0 x1:ByteArray):Kz Go.Proofs.Tryz.prog 99 #[.string x0,.string x1] (fun (r:ByteArray)=>.string r) (Va x0 x1):=by
 intro w Q ⟨h0,h1,h2,h3,h4,h5⟩
 have h116:(Go.Proofs.Tryz.prog.info? (166)).map (fun i=>(i.zero,i.size))=some (some (.agg (Array.replicate 256 (.bool false))),256):=by kernel_rfl
 refine (Any.strings_Trim_set KCC (zero_of_info h116).1 (zero_of_info h116).2 x0 x1 w h0 h2 h3 h1 h4).mono ?_
 rintro e w' ⟨rfl,q,rfl⟩
 refine ⟨_,rfl,h5 _ ?_ ?_,⟨rfl,rfl,rfl,Nat.le_add_right _ _⟩⟩
 ·show w.heap.size≤((w.heap.push _).push _).size
  simp; omega
 ·intro i hi
  show ((w.heap.push _).push _)[i]?=_
  rw [Array.getElem?_push,if_neg (by rw [Array.size_push]; omega),Array.getElem?_push,if_neg (by omega)]
abbrev gER:Nat:=7
end Gx
namespace Gx
open Go
set_option linter.unusedVariables false
set_option maxRecDepth 100000
def YB (x0:Option Addr):M (Value):=do
 let Xx2←mkB Wc #[.pointer x0]
 M.pure (Value.func (.func VB) #[] #[.pointer (some Xx2)])
theorem zA (x0:Option Addr):Kz Go.Proofs.Tryz.prog 45 #[.pointer x0] (fun (r:Value)=>r) (YB x0) :=
 KO [] [0] [.V] [(0,.P x0)] .o Go.Proofs.Tryz.func45 rfl rfl ⟨rfl,trivial⟩ rfl (by kernel_rfl) (by kernel_rfl)
def JQ (C3:Option Addr):M (Bool):=do
 let Xx5←nilP C3
 let Xx6←nilP C3
 let Xx7←ldI .i64 ((Xx5).add 1)
 let Xx8←ldS ((Xx6).add 0)
 M.pure (decide (Xx7 < (Xx8.size:Int)))
def JR (self1:(Unit)→M (Bool)) (C24:Option Addr) (Xx23:Bool):M (Bool):=do
 M.ite Xx23 (do
  let Xx25←nilP C24
  let Xx26←ldI .i64 ((Xx25).add 1)
  let Xx27←nilP C24
  stV ((Xx27).add 1) (.int .i64 (IntKind.wrap .i64 (Xx26+1)))
  self1 ()
  ) (do
  JQ C24
  )
def Uu (C9:Option Addr) (self1:(Unit)→M (Bool)):(Unit)→M (Bool):=fun s=>match s with
 | ()=>do
  let Xx13←nilP C9
  let Xx14←nilP C9
  let Xx15←ldI .i64 ((Xx13).add 1)
  let Xx16←ldS ((Xx14).add 0)
  M.ite (decide (Xx15 < (Xx16.size:Int))) (do
   let Xx18←nilP C9
   let Xx19←nilP C9
   let Xx20←ldS ((Xx18).add 0)
   let Xx21←ldI .i64 ((Xx19).add 1)
   let Xx22←ixS Xx20 Xx21
   M.ite (Xx22 == 32) (do
    JR self1 C9 (Xx22 == 32)
    ) (do
    JR self1 C9 (Xx22 == 10)
    )
   ) (do
   JQ C9
   )
def Jz (x0:Option Addr):M (Bool):=do
 M.loop (Uu x0) ()
theorem Wj (x0:Option Addr):Kz Go.Proofs.Tryz.prog 46 #[.pointer x0] (fun (r:Bool)=>.bool r) (Jz x0) :=
 KO [] [0,3,7,13,17,25,32,36] [.B] [(0,.P x0)] (.q .o (.b (.q .o (.q (.b (.l [(0,.P)] [] (fun (t:Option Addr)=>Uu t) (fun self1=>.q (.q (.r [0,1,2,4,0,16,32,64,128,264] [0,1,2,4,0,16,32,64,128,264] [0,1,3,7,0,16,48,112,240,511] (.pu 0 (.pu 1 (.pu 2 (.pu 4 (.pu 5 (.pu 6 (.pu 3 (.pu 7 (.pu 8 (.pu 9 (.st [9] .dn)))))))))))) .o) (.b (.q (.r [0,1,2,4,0,16,32,64,136] [0,1,2,4,0,16,32,64,136] [0,1,3,7,0,16,48,112,255] (.pu 0 (.pu 1 (.pu 2 (.pu 4 (.pu 5 (.pu 6 (.pu 3 (.pu 7 (.pu 8 (.st [8] .dn))))))))))) (.b (.q .o (.j [(0,.P),(22,.B)] (fun (t:Option Addr × Bool)=>JR self1 t.1 t.2) .o)))))))) (.j [(0,.P)] (fun (t:Option Addr)=>JQ t) (.q (.r [0,1,2,4,0,16,32,64,128,264,1023] [0,1,2,4,0,16,32,64,128,264,512] [0,1,3,7,0,16,48,112,240,511,1023] (.pu 0 (.pu 1 (.pu 2 (.pu 4 (.pu 5 (.pu 6 (.pu 3 (.pu 7 (.pu 8 (.pu 9 (.pu 10 (.st [9,10] .dn))))))))))))) .o)))))) Go.Proofs.Tryz.func46 rfl rfl ⟨rfl,trivial⟩ rfl (by kernel_rfl) (by kernel_rfl)
theorem KLO:KA6 Go.Proofs.Tryz.f13 8 [[],[0],[],[1,2,0,1,2],[3,0,1,2,3]] [[],[0],[],[1],[]] [[],[0],[],[0,1,2],[0,1,2,3]]=true:=by kernel_rfl
def GE (C21:Addr) (C22:Addr) (C23:Addr) (C24:Addr) (lp1:Nat):(Array Value)→M Nat:=fun x=>match x with
 | Xx25=>do
  let Xx26←mkB KP (#[.int .i64 0,.string ByteArray.empty,.int .i64 0,.int .i64 0]:Array Value)
  M.need (Xx25.size=4)
  stG Xx26 Xx25
  let _←beg lp1
  let Xx30←ldL C24
  M.ite ((Xx30.len:Int) == 4096) (do
   let Xx32←ldI .i64 ((Xx26).add 3)
   stV C21 ((Sl.nil:Sl).v)
   chk (fun h:Heap=>(KV h ((Xx26).add 3)=some (.int .i64 Xx32)))
   stV C22 (.int .i64 Xx32)
   stV C23 (.int .i64 3)
   M.pure 1
   ) (do
   let Xx36←ldL C24
   let Xx37←ldG 4 Xx26
   let y_39←N4 4 1 (#[.int .i64 0,.string ByteArray.empty,.int .i64 0,.int .i64 0]:Array Value) [(0,.agg Xx37)]
   let Xx38←bdL KP 1 y_39
   let Xx40←apL KP 4 40 (#[.int .i64 0,.string ByteArray.empty,.int .i64 0,.int .i64 0]:Array Value) Xx36 Xx38
   stV C24 ((Xx40:Sl).v)
   M.pure 0
   )
theorem KJ3:KA6 Go.Proofs.Tryz.f13 11 [[],[0],[1],[2],[],[3,4,0,1,2,3,4],[5,0,1,2,3,4,5]] [[],[0],[1],[2],[],[3],[]] [[],[0],[0,1],[0,1,2],[],[0,1,2,3,4],[0,1,2,3,4,5]]=true:=by kernel_rfl
def NU (x0:ByteArray):M (Sl × Int × Int):=do
 let Xx2←mkB UH (#[.slice none 0 0]:Array Value)
 let Xx3←mkB XR (#[.int .i64 0]:Array Value)
 let Xx4←mkB zi (#[.int .i64 0]:Array Value)
 M.ite (decide ((x0.size:Int) > 16384)) (do
  stV Xx2 ((Sl.nil:Sl).v)
  stV Xx3 (.int .i64 0)
  stV Xx4 (.int .i64 3)
  let _←shut ([])
  let Rr11←ldL Xx2
  let Rr12←ldI .i64 Xx3
  let Rr13←ldI .i64 Xx4
  M.pure (Rr11,Rr12,Rr13)
  ) (do
  let Xx15←mkB G8 (#[.string x0,.int .i64 0]:Array Value)
  let Xx17←mkB UH (#[.slice none 0 0]:Array Value)
  let Xx20←YB (some Xx15)
  let j_42←rgF Go.Proofs.Tryz.prog (fun x:Array Value=>[.agg x]) [.ret] (GE Xx2 Xx3 Xx4 Xx17) Xx20
  M.ite (decide (j_42.1=1)) (do
   let _←shut (j_42.2::[])
   let Rr43←ldL Xx2
   let Rr44←ldI .i64 Xx3
   let Rr45←ldI .i64 Xx4
   M.pure (Rr43,Rr44,Rr45)
   ) (do
   let Xx48←Jz (some Xx15)
   M.ite Xx48 (do
    let Xx50←nilP (some Xx15)
    let Xx51←ldI .i64 ((Xx50).add 1)
    stV Xx2 ((Sl.nil:Sl).v)
    chk (fun h:Heap=>(KV h ((Xx50).add 1)=some (.int .i64 Xx51)))
    stV Xx3 (.int .i64 Xx51)
    stV Xx4 (.int .i64 150)
    let _←shut (j_42.2::[])
    let Rr55←ldL Xx2
    let Rr56←ldI .i64 Xx3
    let Rr57←ldI .i64 Xx4
    M.pure (Rr55,Rr56,Rr57)
    ) (do
    let Xx59←ldL Xx17
    stV Xx2 ((Xx59:Sl).v)
    stV Xx3 (.int .i64 (x0.size:Int))
    stV Xx4 (.int .i64 0)
    let _←shut (j_42.2::[])
    let Rr63←ldL Xx2
    let Rr64←ldI .i64 Xx3
    let Rr65←ldI .i64 Xx4
    M.pure (Rr63,Rr64,Rr65)
    )
   )
  )
theorem KGY (x0:ByteArray):Kz Go.Proofs.Tryz.prog 13 #[.string x0] (fun (r:Sl × Int × Int)=>.tuple #[(r.1:Sl).v,.int .i64 r.2.1,.int .i64 r.2.2]) (NU x0):=by
 refine KGM [(0,.string x0)] Go.Proofs.Tryz.func13 rfl rfl (Nat.le_of_ble_eq_true rfl) (V9 ⟨rfl,trivial⟩) (fun w0 w Q R a hret hE hR H=>?_)
 unfold NU at H
 refine KZ (fun K hK_1=>?_)
 refine KF ?_
 obtain ⟨Xx2,qXx2,H⟩:=H
 refine W5 (v:=.pointer (some Xx2)) rfl rfl hE rfl hR (U7 zr22 qXx2) (fun a w hE hR hh=>?_)
 replace H:=M.at hh H; clear hh
 obtain ⟨Xx3,qXx3,H⟩:=H
 refine W5 (v:=.pointer (some Xx3)) rfl rfl hE rfl hR (U7 zr3 qXx3) (fun a w hE hR hh=>?_)
 replace H:=M.at hh H; clear hh
 obtain ⟨Xx4,qXx4,H⟩:=H
 refine W5 (v:=.pointer (some Xx4)) rfl rfl hE rfl hR (U7 zr23 qXx4) (fun a w hE hR hh=>?_)
 replace H:=M.at hh H; clear hh
 refine KY ?_
 refine hK_1 _ _ ?_
 refine KZ (fun K hK_5=>?_)
 refine KZ (fun K hK_6=>?_)
 refine KF ?_
 refine KD (v:=.string x0) rfl rfl hE rfl (KG hE rfl) (fun a hE=>?_)
 refine KD (v:=.int .i64 (x0.size:Int)) rfl rfl hE rfl (W3 hE rfl un9) (fun a hE=>?_)
 refine KD (v:=.bool (decide ((x0.size:Int) > 16384))) rfl rfl hE rfl (ZS hE rfl rfl ZI KCo) (fun a hE=>?_)
 refine KY ?_
 refine hK_6 _ _ ?_
 refine JP (decide ((x0.size:Int) > 16384)) hE rfl (fun hb=>?_) (fun hb=>?_)
 ·replace H:=M.ite_t hb H
  refine KZ (fun K hK_7=>?_)
  refine KF ?_
  obtain ⟨u_8,qu_8,H⟩:=H
  refine Uk rfl rfl hE hR (Zn hE rfl rfl sz22 qu_8) (fun a w hE hR hh=>?_)
  replace H:=M.at hh H; clear hh
  obtain ⟨u_9,qu_9,H⟩:=H
  refine Uk rfl rfl hE hR (Zn hE rfl rfl sz3 qu_9) (fun a w hE hR hh=>?_)
  replace H:=M.at hh H; clear hh
  obtain ⟨u_10,qu_10,H⟩:=H
  refine Uk rfl rfl hE hR (Zn hE rfl rfl sz23 qu_10) (fun a w hE hR hh=>?_)
  replace H:=M.at hh H; clear hh
  refine KY ?_
  refine hK_7 _ _ ?_
  refine WJ ?_
  refine hret _ _ _ _ _ hE hR (M.unbind H) (fun w hR H=>?_)
  obtain ⟨Rr11,qRr11,H⟩:=H
  obtain ⟨Rr12,qRr12,H⟩:=H
  obtain ⟨Rr13,qRr13,H⟩:=H
  exact ⟨(Rr11,Rr12,Rr13),_,Z5 hE rfl (RV.cell rfl sc22 qRr11 (RV.cell rfl sc3 qRr12 (RV.cell rfl sc23 qRr13 RV.nil))),rfl,H⟩
 ·replace H:=M.ite_f hb H
  refine UE ?_
  refine hK_5 _ _ ?_
  refine KZ (fun K hK_14=>?_)
  refine KF ?_
  refine KD (v:=.string x0) rfl rfl hE rfl (KG hE rfl) (fun a hE=>?_)
  refine KD (v:=.agg (#[.string x0,.int .i64 0]:Array Value)) rfl rfl hE rfl (XB hE rfl zr70 pl70 (by rfl)) (fun a hE=>?_)
  obtain ⟨Xx15,qXx15,H⟩:=H
  refine W5 (v:=.pointer (some Xx15)) rfl rfl hE rfl hR (KJH hE rfl qXx15) (fun a w hE hR hh=>?_)
  replace H:=M.at hh H; clear hh
  refine KD (v:=.pointer (some Xx15)) rfl rfl hE rfl (Kc hE rfl) (fun a hE=>?_)
  refine KY ?_
  refine hK_14 _ _ ?_
  refine KZ (fun K hK_16=>?_)
  refine KF ?_
  obtain ⟨Xx17,qXx17,H⟩:=H
  refine W5 (v:=.pointer (some Xx17)) rfl rfl hE rfl hR (U7 zr22 qXx17) (fun a w hE hR hh=>?_)
  replace H:=M.at hh H; clear hh
  refine KY ?_
  refine hK_16 _ _ ?_
  refine KZ (fun K hK_18=>?_)
  refine KZ (fun K hK_19=>?_)
  refine KF ?_
  refine KD (v:=.pointer (some Xx15)) rfl rfl hE rfl (KG hE rfl) (fun a hE=>?_)
  refine UZ hE hR qL rfl (zA (some Xx15)) (M.unbind H) (fun Xx20 a w ea hR H=>?_)
  have hE:=Env.put_some hE rfl ea; clear ea
  refine KY ?_
  refine hK_19 _ _ ?_
  refine WY ?_
  refine KHv (js:=[.ret]) (enc:=(fun x:Array Value=>[.agg x])) (Y:=(GE Xx2 Xx3 Xx4 Xx17)) hE hR rfl (fun x=>rfl) rfl (M.unbind H) (fun lp1 Xx25 Q w0 Rr hfin a w hE hR H=>?_) (fun j_42 a w hE hR H=>?_)
  ·skip
   replace hE:Env (⟨35,[]⟩:Frm) a [(2,.pointer (some Xx2)),(3,.pointer (some Xx3)),(4,.pointer (some Xx4)),(6,.pointer (some Xx17)),(16,.agg Xx25)]:=Env.cut hE (.cons rfl (.cons rfl (.cons rfl (.cons rfl (.cons rfl Subs.nil)))))
   replace H:(GE Xx2 Xx3 Xx4 Xx17 lp1 Xx25).wp w.heap Q:=H
   unfold GE at H
   refine KF ?_
   obtain ⟨Xx26,qXx26,H⟩:=H
   refine W5 (v:=.pointer (some Xx26)) rfl rfl hE rfl hR (U7 zr29 qXx26) (fun a w hE hR hh=>?_)
   replace H:=M.at hh H; clear hh
   obtain ⟨qz,H⟩:=H
   obtain ⟨u_27,qu_27,H⟩:=H
   refine Uk rfl rfl hE hR (JM hE rfl rfl sz29 qz qu_27) (fun a w hE hR hh=>?_)
   replace H:=M.at hh H; clear hh
   refine KY ?_
   refine KL5 hR H (fun w hR H=>?_)
   refine WY ?_
   refine KZ (fun K hK_28=>?_)
   refine KZ (fun K hK_29=>?_)
   refine KF ?_
   obtain ⟨Xx30,qXx30,H⟩:=H
   refine KD (v:=(Xx30:Sl).v) rfl rfl hE rfl (ZO hE rfl sc22 qXx30) (fun a hE=>?_)
   refine KD (v:=.int .i64 (Xx30.len:Int)) rfl rfl hE rfl (KJI hE rfl 29 un22) (fun a hE=>?_)
   refine KD (v:=.bool ((Xx30.len:Int) == 4096)) rfl rfl hE rfl (ZS hE rfl rfl ZI Yp) (fun a hE=>?_)
   refine KY ?_
   refine hK_29 _ _ ?_
   refine JP ((Xx30.len:Int) == 4096) hE rfl (fun hb=>?_) (fun hb=>?_)
   ·replace H:=M.ite_t hb H
    refine KZ (fun K hK_31=>?_)
    obtain ⟨Xx32,qXx32,H⟩:=H
    have hT:=W6 KLO rfl rfl
    refine U9 (fun w:World=>(fun h:Heap=>(KV h ((Xx26).add 3)=some (.int .i64 Xx32))) w.heap) [3,4] #[false,false,false,false,false] mo hR rfl rfl (fun w' e=>by rw [e]; exact qXx32) (fun w hh hR hs=>?_)
    replace H:=M.at hh H; clear hh
    refine KC (i:=0) (v:=.pointer (some ((Xx26).add 3))) #[true,false,false,false,false] rfl rfl hT (by kernel_rfl) hE rfl (KA rfl) (fun w=>KL hE rfl KI0) (fun a hE=>?_)
    refine Jw (i:=1) (v:=.int .i64 Xx32) #[true,true,false,false,false] rfl rfl hT (by kernel_rfl) hE rfl (KA rfl) hs (fun w s=>ZO hE rfl sc3 s) (fun a hE=>?_)
    obtain ⟨u_33,qu_33,H⟩:=H
    obtain ⟨_,sA,H⟩:=H
    refine KJR (i:=2) #[true,true,true,false,false] rfl rfl hT (by kernel_rfl) rfl hE hR (KA rfl) (Zn hE rfl rfl sz22 qu_33)  (fun w' e=>by rw [e]; exact sA) (fun a w hE hR hh hs=>?_)
    replace H:=M.at hh H; clear hh
    obtain ⟨u_34,qu_34,H⟩:=H
    refine KAJ (i:=3) #[true,true,true,true,false] rfl rfl hT (by kernel_rfl) rfl hE hR (KA rfl) (Zn hE rfl rfl sz3 qu_34)  (fun a w hE hR hh=>?_)
    replace H:=M.at hh H; clear hh
    obtain ⟨u_35,qu_35,H⟩:=H
    refine KAJ (i:=4) #[true,true,true,true,true] rfl rfl hT (by kernel_rfl) rfl hE hR (KA rfl) (Zn hE rfl rfl sz23 qu_35)  (fun a w hE hR hh=>?_)
    replace H:=M.at hh H; clear hh
    refine Wg hT (by kernel_rfl) ?_
    refine hK_31 _ _ ?_
    refine WJ ?_
    exact ⟨0,rfl,hfin 1 _ _ hR H⟩
   ·replace H:=M.ite_f hb H
    refine UE ?_
    refine hK_28 _ _ ?_
    refine KF ?_
    obtain ⟨Xx36,qXx36,H⟩:=H
    refine KD (v:=(Xx36:Sl).v) rfl rfl hE rfl (ZO hE rfl sc22 qXx36) (fun a hE=>?_)
    obtain ⟨Xx37,qXx37,H⟩:=H
    refine KD (v:=.agg Xx37) rfl rfl hE rfl (qv hE rfl ag29 qXx37) (fun a hE=>?_)
    obtain ⟨y_39,qy_39,H⟩:=H
    obtain ⟨Xx38,qXx38,H⟩:=H
    refine W5 (v:=(Xx38:Sl).v) rfl rfl hE rfl hR (GC hE rfl un22 sz29 zr29 rfl qy_39 qXx38) (fun a w hE hR hh=>?_)
    replace H:=M.at hh H; clear hh
    refine t_ex (fun Xx40=>(Xx40:Sl).v) rfl rfl hR (M.unbind H) (fun Q H=>KCu hE rfl rfl ap22 H) (fun Xx40 a w ea hR H=>?_)
    have hE:=Env.put_some hE rfl ea; clear ea
    obtain ⟨u_41,qu_41,H⟩:=H
    refine Uk rfl rfl hE hR (Zn hE rfl rfl sz22 qu_41) (fun a w hE hR hh=>?_)
    replace H:=M.at hh H; clear hh
    refine KY ?_
    exact hfin 0 _ _ hR H
  ·skip
   replace hE:Env (⟨35,(j_42.2::[])⟩:Frm) a [(0,.string x0),(2,.pointer (some Xx2)),(3,.pointer (some Xx3)),(4,.pointer (some Xx4)),(5,.pointer (some Xx15)),(6,.pointer (some Xx17))]:=Env.cut hE (.cons rfl (.cons rfl (.cons rfl (.cons rfl (.cons rfl (.cons rfl Subs.nil))))))
   refine KHt (fun hj=>?_) (fun hj=>?_)
   ·replace H:=M.ite_t (decide_eq_true hj) H
    refine WJ ?_
    refine hret _ _ _ _ _ hE hR (M.unbind H) (fun w hR H=>?_)
    obtain ⟨Rr43,qRr43,H⟩:=H
    obtain ⟨Rr44,qRr44,H⟩:=H
    obtain ⟨Rr45,qRr45,H⟩:=H
    exact ⟨(Rr43,Rr44,Rr45),_,Z5 hE rfl (RV.cell rfl sc22 qRr43 (RV.cell rfl sc3 qRr44 (RV.cell rfl sc23 qRr45 RV.nil))),rfl,H⟩
   ·replace H:=M.ite_f (decide_eq_false hj) H
    refine KJi ?_
    refine hK_18 _ _ ?_
    refine KZ (fun K hK_46=>?_)
    refine KZ (fun K hK_47=>?_)
    refine KF ?_
    refine KD (v:=.pointer (some Xx15)) rfl rfl hE rfl (KG hE rfl) (fun a hE=>?_)
    refine UZ hE hR WL rfl (Wj (some Xx15)) (M.unbind H) (fun Xx48 a w ea hR H=>?_)
    have hE:=Env.put_some hE rfl ea; clear ea
    refine KY ?_
    refine hK_47 _ _ ?_
    refine JP Xx48 hE rfl (fun hb=>?_) (fun hb=>?_)
    ·replace H:=M.ite_t hb H
     refine KZ (fun K hK_49=>?_)
     obtain ⟨Xx50,qXx50,H⟩:=H
     obtain ⟨Xx51,qXx51,H⟩:=H
     have hT:=W6 KJ3 rfl rfl
     refine U9 (fun w:World=>(fun h:Heap=>(KV h ((Xx50).add 1)=some (.int .i64 Xx51))) w.heap) [5,6] #[false,false,false,false,false,false,false] mo hR rfl rfl (fun w' e=>by rw [e]; exact qXx51) (fun w hh hR hs=>?_)
     replace H:=M.at hh H; clear hh
     refine KC (i:=0) (v:=.pointer (some Xx15)) #[true,false,false,false,false,false,false] rfl rfl hT (by kernel_rfl) hE rfl (KA rfl) (fun w=>KG hE rfl) (fun a hE=>?_)
     refine KC (i:=1) (v:=.pointer (some Xx50)) #[true,true,false,false,false,false,false] rfl rfl hT (by kernel_rfl) hE rfl (KA rfl) (fun w=>KM hE (Z6 rfl (congrArg Value.pointer qXx50))) (fun a hE=>?_)
     refine KC (i:=2) (v:=.pointer (some ((Xx50).add 1))) #[true,true,true,false,false,false,false] rfl rfl hT (by kernel_rfl) hE rfl (KA rfl) (fun w=>KL hE rfl KDC) (fun a hE=>?_)
     refine Jw (i:=3) (v:=.int .i64 Xx51) #[true,true,true,true,false,false,false] rfl rfl hT (by kernel_rfl) hE rfl (KA rfl) hs (fun w s=>ZO hE rfl sc3 s) (fun a hE=>?_)
     obtain ⟨u_52,qu_52,H⟩:=H
     obtain ⟨_,sA,H⟩:=H
     refine KJR (i:=4) #[true,true,true,true,true,false,false] rfl rfl hT (by kernel_rfl) rfl hE hR (KA rfl) (Zn hE rfl rfl sz22 qu_52)  (fun w' e=>by rw [e]; exact sA) (fun a w hE hR hh hs=>?_)
     replace H:=M.at hh H; clear hh
     obtain ⟨u_53,qu_53,H⟩:=H
     refine KAJ (i:=5) #[true,true,true,true,true,true,false] rfl rfl hT (by kernel_rfl) rfl hE hR (KA rfl) (Zn hE rfl rfl sz3 qu_53)  (fun a w hE hR hh=>?_)
     replace H:=M.at hh H; clear hh
     obtain ⟨u_54,qu_54,H⟩:=H
     refine KAJ (i:=6) #[true,true,true,true,true,true,true] rfl rfl hT (by kernel_rfl) rfl hE hR (KA rfl) (Zn hE rfl rfl sz23 qu_54)  (fun a w hE hR hh=>?_)
     replace H:=M.at hh H; clear hh
     refine Wg hT (by kernel_rfl) ?_
     refine hK_49 _ _ ?_
     refine WJ ?_
     refine hret _ _ _ _ _ hE hR (M.unbind H) (fun w hR H=>?_)
     obtain ⟨Rr55,qRr55,H⟩:=H
     obtain ⟨Rr56,qRr56,H⟩:=H
     obtain ⟨Rr57,qRr57,H⟩:=H
     exact ⟨(Rr55,Rr56,Rr57),_,Z5 hE rfl (RV.cell rfl sc22 qRr55 (RV.cell rfl sc3 qRr56 (RV.cell rfl sc23 qRr57 RV.nil))),rfl,H⟩
    ·replace H:=M.ite_f hb H
     refine UE ?_
     refine hK_46 _ _ ?_
     refine KZ (fun K hK_58=>?_)
     refine KF ?_
     obtain ⟨Xx59,qXx59,H⟩:=H
     refine KD (v:=(Xx59:Sl).v) rfl rfl hE rfl (ZO hE rfl sc22 qXx59) (fun a hE=>?_)
     refine KD (v:=.string x0) rfl rfl hE rfl (KG hE rfl) (fun a hE=>?_)
     refine KD (v:=.int .i64 (x0.size:Int)) rfl rfl hE rfl (W3 hE rfl un9) (fun a hE=>?_)
     obtain ⟨u_60,qu_60,H⟩:=H
     refine Uk rfl rfl hE hR (Zn hE rfl rfl sz22 qu_60) (fun a w hE hR hh=>?_)
     replace H:=M.at hh H; clear hh
     obtain ⟨u_61,qu_61,H⟩:=H
     refine Uk rfl rfl hE hR (Zn hE rfl rfl sz3 qu_61) (fun a w hE hR hh=>?_)
     replace H:=M.at hh H; clear hh
     obtain ⟨u_62,qu_62,H⟩:=H
     refine Uk rfl rfl hE hR (Zn hE rfl rfl sz23 qu_62) (fun a w hE hR hh=>?_)
     replace H:=M.at hh H; clear hh
     refine KY ?_
     refine hK_58 _ _ ?_
     refine WJ ?_
     refine hret _ _ _ _ _ hE hR (M.unbind H) (fun w hR H=>?_)
     obtain ⟨Rr63,qRr63,H⟩:=H
     obtain ⟨Rr64,qRr64,H⟩:=H
     obtain ⟨Rr65,qRr65,H⟩:=H
     exact ⟨(Rr63,Rr64,Rr65),_,Z5 hE rfl (RV.cell rfl sc22 qRr63 (RV.cell rfl sc3 qRr64 (RV.cell rfl sc23 qRr65 RV.nil))),rfl,H⟩
noncomputable def KDE:CalleeS Go.Proofs.Tryz.prog:=mkC KFc KFd [.S] [.L,.I .i64,.I .i64] (fun (t:ByteArray)=>NU t) (fun (t:ByteArray)=>KGY t)
def JV (x0:Int):M (Bool):=do
 let Xx3←M.ite (x0 == 95) (do
  M.pure true
  ) (do
  let Xx4←M.ite (decide (x0 ≥ 97)) (do
   M.pure (decide (x0≤122))
   ) (do
   M.pure false
   )
  M.pure Xx4
  )
 let Xx5←M.ite Xx3 (do
  M.pure true
  ) (do
  let Xx6←M.ite (decide (x0 ≥ 65)) (do
   M.pure (decide (x0≤90))
   ) (do
   M.pure false
   )
  M.pure Xx6
  )
 M.pure Xx5
theorem Gj (x0:Int):Kz Go.Proofs.Tryz.prog 101 #[.int .u8 x0] (fun (r:Bool)=>.bool r) (JV x0) :=
 KO [] [] [.B] [(0,.I .u8 x0)] .o Go.Proofs.Tryz.func101 rfl rfl ⟨rfl,trivial⟩ rfl (by kernel_rfl) (by kernel_rfl)
noncomputable def Gk:CalleeS Go.Proofs.Tryz.prog:=mkC Xh Xm [.I .u8] [.B] (fun (t:Int)=>JV t) (fun (t:Int)=>Gj t)
def VT (C12:ByteArray) (self1:(Int)→M (Bool)):(Int)→M (Bool):=fun s=>match s with
 | Xx11=>do
  M.ite (decide (Xx11 < (C12.size:Int))) (do
   let Xx18←ixS C12 Xx11
   let Xx19←JV Xx18
   let Xx20←M.ite (!Xx19) (do
    let Xx21←ixS C12 Xx11
    let Xx22←M.ite (decide (Xx21 < 48)) (do
     M.pure true
     ) (do
     let Xx23←ixS C12 Xx11
     M.pure (decide (Xx23 > 57))
     )
    M.pure Xx22
    ) (do
    M.pure false
    )
   M.ite Xx20 (do
    M.pure false
    ) (do
    self1 (IntKind.wrap .i64 (Xx11+1))
    )
   ) (do
   M.pure true
   )
def Ua (x0:ByteArray):M (Bool):=do
 let Xx4←M.ite (sEq x0 ByteArray.empty) (do
  M.pure true
  ) (do
  M.pure (decide ((x0.size:Int) > 24))
  )
 let Xx5←M.ite Xx4 (do
  M.pure true
  ) (do
  let Xx6←ixS x0 0
  let Xx7←JV Xx6
  M.pure (!Xx7)
  )
 M.ite Xx5 (do
  M.pure false
  ) (do
  M.loop (VT x0) 0
  )
theorem qW (x0:ByteArray):Kz Go.Proofs.Tryz.prog 55 #[.string x0] (fun (r:Bool)=>.bool r) (Ua x0) :=
 KO [Gk] [] [.B] [(0,.S x0)] (.q .o (.q .o (.q (.q .o (.b (.l [(0,.S)] [(3,.I .i64)] (fun (t:ByteArray)=>VT t) (fun _=>.o)))) .o))) Go.Proofs.Tryz.func55 rfl rfl ⟨rfl,trivial⟩ rfl (by kernel_rfl) (by kernel_rfl)
noncomputable def qX:CalleeS Go.Proofs.Tryz.prog:=mkC NF NN [.S] [.B] (fun (t:ByteArray)=>Ua t) (fun (t:ByteArray)=>qW t)
def VU (C5:Int) (self1:(Int)→M (Bool)):(Int)→M (Bool):=fun s=>match s with
 | Xx4=>do
  M.ite (decide (Xx4 < 11)) (do
   let Xx11←ixS (⟨#[46,40,41,44,91,93,123,125,58,61,59]⟩:ByteArray) Xx4
   M.ite (Xx11 == C5) (do
    M.pure true
    ) (do
    self1 (IntKind.wrap .i64 (Xx4+1))
    )
   ) (do
   M.pure false
   )
def Jr (x0:Int):M (Bool):=do
 M.loop (VU x0) 0
theorem qY (x0:Int):Kz Go.Proofs.Tryz.prog 56 #[.int .u8 x0] (fun (r:Bool)=>.bool r) (Jr x0) :=
 KO [] [] [.B] [(0,.I .u8 x0)] (.q .o (.q (.q .o (.b (.l [(0,.I .u8)] [(3,.I .i64)] (fun (t:Int)=>VU t) (fun _=>.o)))) .o)) Go.Proofs.Tryz.func56 rfl rfl ⟨rfl,trivial⟩ rfl (by kernel_rfl) (by kernel_rfl)
noncomputable def Ye:CalleeS Go.Proofs.Tryz.prog:=mkC NH NP [.I .u8] [.B] (fun (t:Int)=>Jr t) (fun (t:Int)=>qY t)
def ZQ (C5:Addr) (Xx4:Bool):M (Int):=do
 let Xx8←M.ite (!Xx4) (do
  M.pure true
  ) (do
  let Xx9←ldI .i64 ((C5).add 3)
  M.pure (decide (Xx9 < 0))
  )
 M.ite Xx8 (do
  M.pure 150
  ) (do
  M.pure 0
  )
def Jd (x0:Array Value):M (Int):=do
 let Xx2←mkB KP x0
 let Xx13←ldI .i64 ((Xx2).add 0)
 M.ite (Xx13 == 1) (do
  let Xx15←ldS ((Xx2).add 1)
  let Xx16←Ua Xx15
  let Xx17←M.ite Xx16 (do
   let Xx18←ldI .i64 ((Xx2).add 2)
   M.pure (Xx18 == 0)
   ) (do
   M.pure false
   )
  ZQ Xx2 Xx17
  ) (do
  M.ite (Xx13 == 2) (do
   let Xx20←ldS ((Xx2).add 1)
   ZQ Xx2 (sEq Xx20 ByteArray.empty)
   ) (do
   M.ite (Xx13 == 3) (do
    let Xx22←ldS ((Xx2).add 1)
    let Xx23←M.ite (decide ((Xx22.size:Int)≤128)) (do
     let Xx24←ldI .i64 ((Xx2).add 2)
     M.pure (Xx24 == 0)
     ) (do
     M.pure false
     )
    ZQ Xx2 Xx23
    ) (do
    M.ite (Xx13 == 4) (do
     let Xx26←ldS ((Xx2).add 1)
     let Xx27←M.ite ((Xx26.size:Int) == 1) (do
      let Xx28←ldS ((Xx2).add 1)
      let Xx29←ixS Xx28 0
      let Xx30←Jr Xx29
      M.pure Xx30
      ) (do
      M.pure false
      )
     let Xx31←M.ite Xx27 (do
      let Xx32←ldI .i64 ((Xx2).add 2)
      M.pure (Xx32 == 0)
      ) (do
      M.pure false
      )
     ZQ Xx2 Xx31
     ) (do
     ZQ Xx2 false
     )
    )
   )
  )
theorem NV (x0:Array Value):Kz Go.Proofs.Tryz.prog 23 #[.agg x0] (fun (r:Int)=>.int .i64 r) (Jd x0) :=
 KO [qX,Ye] [] [.I .i64] [(0,.G x0)] (.q .o (.q .o (.q .o (.j [(1,.A),(3,.B)] (fun (t:Addr × Bool)=>ZQ t.1 t.2) .o)))) Go.Proofs.Tryz.func23 rfl rfl ⟨rfl,trivial⟩ rfl (by kernel_rfl) (by kernel_rfl)
noncomputable def YC:CalleeS Go.Proofs.Tryz.prog:=mkC GS Gf [.G] [.I .i64] (fun (t:Array Value)=>Jd t) (fun (t:Array Value)=>NV t)
def JW (x0:Int):M (Bool):=do
 let Xx3←M.ite (decide (x0 ≥ 97)) (do
  M.pure (decide (x0≤122))
  ) (do
  M.pure false
  )
 let Xx4←M.ite Xx3 (do
  M.pure true
  ) (do
  let Xx5←M.ite (decide (x0 ≥ 65)) (do
   M.pure (decide (x0≤90))
   ) (do
   M.pure false
   )
  M.pure Xx5
  )
 let Xx6←M.ite Xx4 (do
  M.pure true
  ) (do
  M.pure (x0 == 95)
  )
 M.pure Xx6
theorem Gl (x0:Int):Kz Go.Proofs.Tryz.prog 94 #[.int .u8 x0] (fun (r:Bool)=>.bool r) (JW x0) :=
 KO [] [] [.B] [(0,.I .u8 x0)] .o Go.Proofs.Tryz.func94 rfl rfl ⟨rfl,trivial⟩ rfl (by kernel_rfl) (by kernel_rfl)
noncomputable def Wk:CalleeS Go.Proofs.Tryz.prog:=mkC Xi Xn [.I .u8] [.B] (fun (t:Int)=>JW t) (fun (t:Int)=>Gl t)
def UI (x0:Int):M (Bool):=do
 let Xx3←M.ite (decide (x0 ≥ 48)) (do
  M.pure (decide (x0≤57))
  ) (do
  M.pure false
  )
 M.pure Xx3
theorem NW (x0:Int):Kz Go.Proofs.Tryz.prog 127 #[.int .u8 x0] (fun (r:Bool)=>.bool r) (UI x0) :=
 KO [] [] [.B] [(0,.I .u8 x0)] .o Go.Proofs.Tryz.func127 rfl rfl ⟨rfl,trivial⟩ rfl (by kernel_rfl) (by kernel_rfl)
noncomputable def NX:CalleeS Go.Proofs.Tryz.prog:=mkC GT Gg [.I .u8] [.B] (fun (t:Int)=>UI t) (fun (t:Int)=>NW t)
def VV (C5:ByteArray) (self1:(Int)→M (Int)):(Int)→M (Int):=fun s=>match s with
 | Xx4=>do
  let Xx9←M.ite (decide (Xx4 < (C5.size:Int))) (do
   let Xx10←ixS C5 Xx4
   let Xx11←JW Xx10
   let Xx12←M.ite Xx11 (do
    M.pure true
    ) (do
    let Xx13←ixS C5 Xx4
    let Xx14←UI Xx13
    M.pure Xx14
    )
   M.pure Xx12
   ) (do
   M.pure false
   )
  M.ite Xx9 (do
   self1 (IntKind.wrap .i64 (Xx4+1))
   ) (do
   M.pure Xx4
   )
def Js (x0:ByteArray):M (Int):=do
 M.loop (VV x0) 0
theorem qZ (x0:ByteArray):Kz Go.Proofs.Tryz.prog 95 #[.string x0] (fun (r:Int)=>.int .i64 r) (Js x0) :=
 KO [NX,Wk] [] [.I .i64] [(0,.S x0)] (.q .o (.q .o (.q (.b (.l [(0,.S)] [(3,.I .i64)] (fun (t:ByteArray)=>VV t) (fun _=>.o))) .o))) Go.Proofs.Tryz.func95 rfl rfl ⟨rfl,trivial⟩ rfl (by kernel_rfl) (by kernel_rfl)
noncomputable def qa:CalleeS Go.Proofs.Tryz.prog:=mkC NI NQ [.S] [.I .i64] (fun (t:ByteArray)=>Js t) (fun (t:ByteArray)=>qZ t)
def J0 (self1:(Int)→M (Int)) (Xx14:Int):M (Int):=do
 self1 (IntKind.wrap .i64 (Xx14+1))
def Uv (C10:ByteArray) (self1:(Int)→M (Int)):(Int)→M (Int):=fun s=>match s with
 | Xx9=>do
  M.ite (decide (Xx9 < (C10.size:Int))) (do
   let Xx18←ixS C10 Xx9
   M.ite (Xx18 == 92) (do
    J0 self1 (IntKind.wrap .i64 (Xx9+1))
    ) (do
    let Xx21←ixS C10 Xx9
    M.ite (Xx21 == 39) (do
     M.pure (IntKind.wrap .i64 (Xx9+1))
     ) (do
     J0 self1 Xx9
     )
    )
   ) (do
   M.pure 0
   )
def J1 (x0:ByteArray):M (Int):=do
 let Xx4←M.ite ((x0.size:Int) == 0) (do
  M.pure true
  ) (do
  let Xx5←ixS x0 0
  M.pure (Xx5 != 39)
  )
 M.ite Xx4 (do
  M.pure 0
  ) (do
  M.loop (Uv x0) 1
  )
theorem Gm (x0:ByteArray):Kz Go.Proofs.Tryz.prog 96 #[.string x0] (fun (r:Int)=>.int .i64 r) (J1 x0) :=
 KO [] [] [.I .i64] [(0,.S x0)] (.q .o (.q .o (.q (.q .o (.b (.l [(0,.S)] [(3,.I .i64)] (fun (t:ByteArray)=>Uv t) (fun self1=>.q .o (.q .o (.j [(0,.S),(3,.I .i64)] (fun (t:ByteArray × Int)=>J0 self1 t.2) .o)))))) .o))) Go.Proofs.Tryz.func96 rfl rfl ⟨rfl,trivial⟩ rfl (by kernel_rfl) (by kernel_rfl)
noncomputable def Gn:CalleeS Go.Proofs.Tryz.prog:=mkC Xj Xo [.S] [.I .i64] (fun (t:ByteArray)=>J1 t) (fun (t:ByteArray)=>Gm t)
def ZZ (x0:Int) (x1:Int):M (Int):=do
 M.ite (decide (x0 < x1)) (do
  M.pure (-1)
  ) (do
  M.ite (decide (x0 > x1)) (do
   M.pure 1
   ) (do
   M.pure 0
   )
  )
theorem zB (x0:Int) (x1:Int):Kz Go.Proofs.Tryz.prog 117 #[.int .i64 x0,.int .i64 x1] (fun (r:Int)=>.int .i64 r) (ZZ x0 x1) :=
 KO [] [] [.I .i64] [(0,.I .i64 x0),(1,.I .i64 x1)] .o Go.Proofs.Tryz.func117 rfl rfl ⟨rfl,rfl,trivial⟩ rfl (by kernel_rfl) (by kernel_rfl)
noncomputable def Yt:CalleeS Go.Proofs.Tryz.prog:=mkC qD qQ [.I .i64,.I .i64] [.I .i64] (fun (t:Int × Int)=>ZZ t.1 t.2) (fun (t:Int × Int)=>zB t.1 t.2)
def VW (C5:ByteArray) (C6:ByteArray) (self1:(Int)→M (Int)):(Int)→M (Int):=fun s=>match s with
 | Xx4=>do
  let Xx10←M.ite (decide (Xx4 < (C5.size:Int))) (do
   M.pure (decide (Xx4 < (C6.size:Int)))
   ) (do
   M.pure false
   )
  M.ite Xx10 (do
   let Xx13←ixS C5 Xx4
   let Xx14←ixS C6 Xx4
   M.ite (Xx13 != Xx14) (do
    let Xx16←ixS C5 Xx4
    let Xx17←ixS C6 Xx4
    let Xx18←ZZ (IntKind.wrap .i64 Xx16) (IntKind.wrap .i64 Xx17)
    M.pure Xx18
    ) (do
    self1 (IntKind.wrap .i64 (Xx4+1))
    )
   ) (do
   let Xx20←ZZ (C5.size:Int) (C6.size:Int)
   M.pure Xx20
   )
def Ub (x0:ByteArray) (x1:ByteArray):M (Int):=do
 M.loop (VW x0 x1) 0
theorem qe (x0:ByteArray) (x1:ByteArray):Kz Go.Proofs.Tryz.prog 118 #[.string x0,.string x1] (fun (r:Int)=>.int .i64 r) (Ub x0 x1) :=
 KO [Yt] [] [.I .i64] [(0,.S x0),(1,.S x1)] (.q .o (.q (.q .o (.b (.l [(0,.S),(1,.S)] [(5,.I .i64)] (fun (t:ByteArray × ByteArray)=>VW t.1 t.2) (fun _=>.q .o (.q (.b (.q (.r [0,0,3,0,0,24,36] [0,0,3,0,0,24,36] [0,0,3,0,0,24,63] (.pu 0 (.pu 1 (.pu 2 (.pu 3 (.pu 4 (.pu 5 (.pu 6 (.st [0,1,2,3,4,5,6] .dn))))))))) (.q (.q (.r [0,0,3,4,0,0,48,64,136,511] [0,0,3,4,0,0,48,64,136,256] [0,0,3,7,0,0,48,112,255,511] (.pu 0 (.pu 1 (.pu 2 (.pu 3 (.pu 4 (.pu 5 (.pu 6 (.pu 7 (.st [0,1,2,3,4,5,6,7,8,9] (.on 8 (.pu 9 (.nx .dn))))))))))))) .o) .o))) .o))))) .o)) Go.Proofs.Tryz.func118 rfl rfl ⟨rfl,rfl,trivial⟩ rfl (by kernel_rfl) (by kernel_rfl)
noncomputable def qf:CalleeS Go.Proofs.Tryz.prog:=mkC NG NO [.S,.S] [.I .i64] (fun (t:ByteArray × ByteArray)=>Ub t.1 t.2) (fun (t:ByteArray × ByteArray)=>qe t.1 t.2)
def Ui (C28:Addr) (C29:Addr) (self1:(Int)→M (Int)):(Int)→M (Int):=fun s=>match s with
 | Xx27=>do
  let Xx33←ldL ((C28).add 3)
  let Xx34←M.ite (decide (Xx27 < (Xx33.len:Int))) (do
   let Xx35←ldL ((C29).add 3)
   M.pure (decide (Xx27 < (Xx35.len:Int)))
   ) (do
   M.pure false
   )
  M.ite Xx34 (do
   let Xx38←ldL ((C28).add 3)
   let Xx39←ixL Xx38 Xx27 4
   let Xx40←ldG 4 Xx39
   let Xx41←ldL ((C29).add 3)
   let Xx42←ixL Xx41 Xx27 4
   let Xx43←ldG 4 Xx42
   let Xx44←Y8 Go.Proofs.Tryz.prog Jm #[.agg Xx40,.agg Xx43] (fun r:Int=>.int .i64 r)
   M.ite (Xx44 != 0) (do
    M.pure Xx44
    ) (do
    self1 (IntKind.wrap .i64 (Xx27+1))
    )
   ) (do
   let Xx48←ldL ((C28).add 3)
   let Xx49←ldL ((C29).add 3)
   let Xx50←ZZ (Xx48.len:Int) (Xx49.len:Int)
   M.pure Xx50
   )
def JE (x0:Array Value) (x1:Array Value):M (Int):=do
 let Xx2←mkB KE x0
 let Xx3←mkB KE x1
 let Xx6←ldI .i64 ((Xx2).add 0)
 let Xx7←ldI .i64 ((Xx3).add 0)
 let Xx8←ZZ Xx6 Xx7
 M.ite (Xx8 != 0) (do
  M.pure Xx8
  ) (do
  let Xx13←ldI .i64 ((Xx2).add 1)
  let Xx14←ldI .i64 ((Xx3).add 1)
  let Xx15←ZZ Xx13 Xx14
  M.ite (Xx15 != 0) (do
   M.pure Xx15
   ) (do
   let Xx20←ldS ((Xx2).add 2)
   let Xx21←ldS ((Xx3).add 2)
   let Xx22←Ub Xx20 Xx21
   M.ite (Xx22 != 0) (do
    M.pure Xx22
    ) (do
    M.loop (Ui Xx2 Xx3) 0
    )
   )
  )
theorem WM (x0:Array Value) (x1:Array Value):Kz Go.Proofs.Tryz.prog 74 #[.agg x0,.agg x1] (fun (r:Int)=>.int .i64 r) (JE x0 x1) :=
 KO [Yt,qf,mkC Jm V1 [.G,.G] [.I .i64] (fun (t:Array Value × Array Value)=>Y8 Go.Proofs.Tryz.prog Jm #[.agg t.1,.agg t.2] (fun r:Int=>.int .i64 r)) (fun (t:Array Value × Array Value)=>VR)] [] [.I .i64] [(0,.G x0),(1,.G x1)] (.q .o (.q .o (.q .o (.q .o (.q (.q .o (.b (.l [(2,.A),(3,.A)] [(8,.I .i64)] (fun (t:Addr × Addr)=>Ui t.1 t.2) (fun _=>.q .o (.q (.b (.q (.r [0,1,0,6,8,0,32,0,192,256,528,2047] [0,1,0,6,8,0,32,0,192,256,528,1024] [0,1,0,7,15,0,32,0,224,480,1023,2047] (.pu 0 (.pu 2 (.pu 5 (.pu 7 (.pu 1 (.pu 3 (.pu 4 (.pu 6 (.pu 8 (.pu 9 (.st [10,11] (.on 10 (.pu 11 (.nx .dn))))))))))))))) .o)) .o))))) .o))))) Go.Proofs.Tryz.func74 rfl rfl ⟨rfl,rfl,trivial⟩ rfl (by kernel_rfl) (by kernel_rfl)
noncomputable def Xs:CalleeS Go.Proofs.Tryz.prog:=mkC Jm V1 [.G,.G] [.I .i64] (fun (t:Array Value × Array Value)=>JE t.1 t.2) (fun (t:Array Value × Array Value)=>WM t.1 t.2)
def VG (C5:Sl) (self1:(Int)→M (Bool)):(Int)→M (Bool):=fun s=>match s with
 | Xx4=>do
  M.ite (decide (Xx4 < (C5.len:Int))) (do
   let Xx11←ixL C5 (IntKind.wrap .i64 (Xx4 - 2)) 4
   let Xx12←ixL C5 Xx4 4
   let Xx13←ldG 4 Xx11
   let Xx14←ldG 4 Xx12
   let Xx15←JE Xx13 Xx14
   M.ite (decide (Xx15 ≥ 0)) (do
    M.pure false
    ) (do
    self1 (IntKind.wrap .i64 (Xx4+2))
    )
   ) (do
   M.pure true
   )
def UJ (x0:Sl):M (Bool):=do
 M.loop (VG x0) 2
theorem NY (x0:Sl):Kz Go.Proofs.Tryz.prog 110 #[(x0:Sl).v] (fun (r:Bool)=>.bool r) (UJ x0) :=
 KO [Xs] [] [.B] [(0,.L x0)] (.q .o (.q (.q .o (.b (.l [(0,.L)] [(3,.I .i64)] (fun (t:Sl)=>VG t) (fun _=>.q .o (.q (.b (.q (.r [0,0,2,5,8,0,0,96,128,272,512] [0,0,2,5,8,0,0,96,128,272,512] [0,0,2,7,15,0,0,96,224,511,1023] (.pu 0 (.pu 1 (.pu 2 (.pu 3 (.pu 5 (.pu 6 (.pu 7 (.pu 4 (.pu 8 (.st [9,10] (.on 9 (.pu 10 (.nx .dn)))))))))))))) .o)) .o))))) .o)) Go.Proofs.Tryz.func110 rfl rfl ⟨rfl,trivial⟩ rfl (by kernel_rfl) (by kernel_rfl)
noncomputable def NZ:CalleeS Go.Proofs.Tryz.prog:=mkC GR Ge [.L] [.B] (fun (t:Sl)=>UJ t) (fun (t:Sl)=>NY t)
def J2 (C24:Int) (C25:Addr) (C26:Int) (Xx23:Bool):M (Bool):=do
 M.ite Xx23 (do
  let Xx28←ldS ((C25).add 2)
  let Xx29←M.ite (sEq Xx28 ByteArray.empty) (do
   let Xx30←ldL ((C25).add 3)
   M.pure ((Xx30.len:Int) == 0)
   ) (do
   M.pure false
   )
  let Xx31←M.ite Xx29 (do
   let Xx32←ldI .i64 ((C25).add 1)
   M.pure (decide (Xx32 ≥ 1))
   ) (do
   M.pure false
   )
  let Xx33←M.ite Xx31 (do
   let Xx34←ldI .i64 ((C25).add 1)
   M.pure (decide (Xx34≤281474976710656))
   ) (do
   M.pure false
   )
  M.pure Xx33
  ) (do
  M.ite (C26 == 2) (do
   let Xx37←ldI .i64 ((C25).add 1)
   let Xx38←M.ite (Xx37 == 0) (do
    let Xx39←ldL ((C25).add 3)
    M.pure ((Xx39.len:Int) == 0)
    ) (do
    M.pure false
    )
   let Xx40←M.ite Xx38 (do
    let Xx41←ldS ((C25).add 2)
    M.pure (decide ((Xx41.size:Int)≤128))
    ) (do
    M.pure false
    )
   M.pure Xx40
   ) (do
   M.ite (C26 == 4) (do
    let Xx44←ldI .i64 ((C25).add 1)
    let Xx45←M.ite (Xx44 == 0) (do
     let Xx46←ldS ((C25).add 2)
     M.pure (sEq Xx46 ByteArray.empty)
     ) (do
     M.pure false
     )
    let Xx47←M.ite Xx45 (do
     let Xx48←ldL ((C25).add 3)
     M.pure (decide ((Xx48.len:Int)≤256))
     ) (do
     M.pure false
     )
    let Xx49←M.ite Xx47 (do
     let Xx50←ldL ((C25).add 3)
     let Xx51←Y8 Go.Proofs.Tryz.prog Jx #[(Xx50:Sl).v,.int .i64 C24] (fun r:Bool=>.bool r)
     M.pure Xx51
     ) (do
     M.pure false
     )
    M.pure Xx49
    ) (do
    M.ite (C26 == 5) (do
     let Xx54←ldI .i64 ((C25).add 1)
     let Xx55←M.ite (Xx54 == 0) (do
      let Xx56←ldS ((C25).add 2)
      M.pure (sEq Xx56 ByteArray.empty)
      ) (do
      M.pure false
      )
     let Xx57←M.ite Xx55 (do
      let Xx58←ldL ((C25).add 3)
      M.pure (decide ((Xx58.len:Int)≤512))
      ) (do
      M.pure false
      )
     let Xx59←M.ite Xx57 (do
      let Xx60←ldL ((C25).add 3)
      M.pure ((Int.tmod (Xx60.len:Int) 2) == 0)
      ) (do
      M.pure false
      )
     let Xx61←M.ite Xx59 (do
      let Xx62←ldL ((C25).add 3)
      let Xx63←Y8 Go.Proofs.Tryz.prog Jx #[(Xx62:Sl).v,.int .i64 C24] (fun r:Bool=>.bool r)
      M.pure Xx63
      ) (do
      M.pure false
      )
     let Xx64←M.ite Xx61 (do
      let Xx65←ldL ((C25).add 3)
      let Xx66←UJ Xx65
      M.pure Xx66
      ) (do
      M.pure false
      )
     M.pure Xx64
     ) (do
     M.pure false
     )
    )
   )
  )
def Ji (x0:Array Value) (x1:Int):M (Bool):=do
 let Xx2←mkB KE x0
 M.ite (decide (x1 ≥ 8)) (do
  M.pure false
  ) (do
  let Xx8←ldI .i64 ((Xx2).add 0)
  M.ite (Xx8 == 1) (do
   let Xx11←ldS ((Xx2).add 2)
   let Xx12←M.ite (sEq Xx11 ByteArray.empty) (do
    let Xx13←ldL ((Xx2).add 3)
    M.pure ((Xx13.len:Int) == 0)
    ) (do
    M.pure false
    )
   M.pure Xx12
   ) (do
   M.ite (Xx8 == 3) (do
    let Xx16←ldS ((Xx2).add 2)
    let Xx17←M.ite (sEq Xx16 ByteArray.empty) (do
     let Xx18←ldL ((Xx2).add 3)
     M.pure ((Xx18.len:Int) == 0)
     ) (do
     M.pure false
     )
    let Xx19←M.ite Xx17 (do
     let Xx20←ldI .i64 ((Xx2).add 1)
     let Xx21←M.ite (Xx20 == 0) (do
      M.pure true
      ) (do
      let Xx22←ldI .i64 ((Xx2).add 1)
      M.pure (Xx22 == 1)
      )
     M.pure Xx21
     ) (do
     M.pure false
     )
    M.pure Xx19
    ) (do
    M.ite (Xx8 == 6) (do
     J2 x1 Xx2 Xx8 (Xx8 == 6)
     ) (do
     J2 x1 Xx2 Xx8 (Xx8 == 7)
     )
    )
   )
  )
theorem Yu (x0:Array Value) (x1:Int):Kz Go.Proofs.Tryz.prog 70 #[.agg x0,.int .i64 x1] (fun (r:Bool)=>.bool r) (Ji x0 x1) :=
 KO [mkC Jx qO [.L,.I .i64] [.B] (fun (t:Sl × Int)=>Y8 Go.Proofs.Tryz.prog Jx #[(t.1:Sl).v,.int .i64 t.2] (fun r:Bool=>.bool r)) (fun (t:Sl × Int)=>VR),NZ] [] [.B] [(0,.G x0),(1,.I .i64 x1)] (.q .o (.q .o (.q (.q .o (.b (.q .o (.q .o (.q .o (.q .o (.q .o (.j [(1,.I .i64),(2,.A),(8,.I .i64),(41,.B)] (fun (t:Int × Addr × Int × Bool)=>J2 t.1 t.2.1 t.2.2.1 t.2.2.2) .o)))))))) .o))) Go.Proofs.Tryz.func70 rfl rfl ⟨rfl,rfl,trivial⟩ rfl (by kernel_rfl) (by kernel_rfl)
noncomputable def zC:CalleeS Go.Proofs.Tryz.prog:=mkC Uj Yd [.G,.I .i64] [.B] (fun (t:Array Value × Int)=>Ji t.1 t.2) (fun (t:Array Value × Int)=>Yu t.1 t.2)
def UK (x0:Array Value):M (Int):=do
 let Xx2←mkB KE x0
 let Xx5←ldG 4 Xx2
 let Xx6←Ji Xx5 0
 M.ite (!Xx6) (do
  M.pure 20
  ) (do
  M.pure 0
  )
theorem Na (x0:Array Value):Kz Go.Proofs.Tryz.prog 33 #[.agg x0] (fun (r:Int)=>.int .i64 r) (UK x0) :=
 KO [zC] [] [.I .i64] [(0,.G x0)] .o Go.Proofs.Tryz.func33 rfl rfl ⟨rfl,trivial⟩ rfl (by kernel_rfl) (by kernel_rfl)
noncomputable def Nb:CalleeS Go.Proofs.Tryz.prog:=mkC GO Gb [.G] [.I .i64] (fun (t:Array Value)=>UK t) (fun (t:Array Value)=>Na t)
def Vn (x0:Int):M (Array Value):=do
 let Xx2←mkB KE (#[.int .i64 0,.int .i64 0,.string ByteArray.empty,.slice none 0 0]:Array Value)
 M.need ((#[.int .i64 1,.int .i64 x0,.string ByteArray.empty,.slice none 0 0]:Array Value).size=4)
 stG Xx2 (#[.int .i64 1,.int .i64 x0,.string ByteArray.empty,.slice none 0 0]:Array Value)
 let Rr5←ldG 4 Xx2
 M.pure Rr5
theorem zD (x0:Int):Kz Go.Proofs.Tryz.prog 57 #[.int .i64 x0] (fun (r:Array Value)=>.agg r) (Vn x0) :=
 KO [] [] [.G] [(0,.I .i64 x0)] .o Go.Proofs.Tryz.func57 rfl rfl ⟨rfl,trivial⟩ rfl (by kernel_rfl) (by kernel_rfl)
noncomputable def zE:CalleeS Go.Proofs.Tryz.prog:=mkC qA qM [.I .i64] [.G] (fun (t:Int)=>Vn t) (fun (t:Int)=>zD t)
def Vo (x0:ByteArray):M (Array Value):=do
 let Xx2←mkB KE (#[.int .i64 0,.int .i64 0,.string ByteArray.empty,.slice none 0 0]:Array Value)
 M.need ((#[.int .i64 2,.int .i64 0,.string x0,.slice none 0 0]:Array Value).size=4)
 stG Xx2 (#[.int .i64 2,.int .i64 0,.string x0,.slice none 0 0]:Array Value)
 let Rr5←ldG 4 Xx2
 M.pure Rr5
theorem zF (x0:ByteArray):Kz Go.Proofs.Tryz.prog 58 #[.string x0] (fun (r:Array Value)=>.agg r) (Vo x0) :=
 KO [] [] [.G] [(0,.S x0)] .o Go.Proofs.Tryz.func58 rfl rfl ⟨rfl,trivial⟩ rfl (by kernel_rfl) (by kernel_rfl)
noncomputable def zG:CalleeS Go.Proofs.Tryz.prog:=mkC qB qN [.S] [.G] (fun (t:ByteArray)=>Vo t) (fun (t:ByteArray)=>zF t)
def KQ (x0:Option Addr) (x1:Int):M (Unit):=do
 let Xx2←nilP x0
 let Xx3←ldI .i64 ((Xx2).add 2)
 M.ite (decide (Xx3 < 0)) (do
  let Xx4←nilP x0
  stV ((Xx4).add 2) (.int .i64 x1)
  M.pure ()
  ) (do
  M.pure ()
  )
theorem Yk (x0:Option Addr) (x1:Int):Kz Go.Proofs.Tryz.prog 129 #[.pointer x0,.int .i64 x1] (fun (r:Unit)=>.tuple #[]) (KQ x0 x1) :=
 KO [] [0,4,9] [] [(0,.P x0),(1,.I .i64 x1)] .o Go.Proofs.Tryz.func129 rfl rfl ⟨rfl,rfl,trivial⟩ rfl (by kernel_rfl) (by kernel_rfl)
noncomputable def ZM:CalleeS Go.Proofs.Tryz.prog:=mkC YQ YT [.P,.I .i64] [] (fun (t:Option Addr × Int)=>KQ t.1 t.2) (fun (t:Option Addr × Int)=>Yk t.1 t.2)
def Zc (C4:Option Addr) (Xx3:Bool):M (Int):=do
 M.ite Xx3 (do
  M.pure 0
  ) (do
  let Xx7←nilP C4
  let Xx8←nilP C4
  let Xx9←ldS ((Xx7).add 0)
  let Xx10←ldI .i64 ((Xx8).add 1)
  let Xx11←ixS Xx9 Xx10
  M.pure Xx11
  )
def KR (x0:Option Addr):M (Int):=do
 let Xx12←nilP x0
 let Xx13←ldI .i64 ((Xx12).add 2)
 M.ite (decide (Xx13 ≥ 0)) (do
  Zc x0 true
  ) (do
  let Xx15←nilP x0
  let Xx16←nilP x0
  let Xx17←ldI .i64 ((Xx15).add 1)
  let Xx18←ldS ((Xx16).add 0)
  Zc x0 (decide (Xx17 ≥ (Xx18.size:Int)))
  )
theorem Yl (x0:Option Addr):Kz Go.Proofs.Tryz.prog 181 #[.pointer x0] (fun (r:Int)=>.int .u8 r) (KR x0) :=
 KO [] [0,3,9,13,20,24] [.I .u8] [(0,.P x0)] (.q .o (.q (.q (.r [0,1,2,4,8,16,32,96,160,288,32,1056,2080,4128,8224,16928,32800] [0,1,2,4,8,16,32,96,160,288,32,1056,2080,4128,8224,16928,32800] [0,1,3,7,15,31,63,127,255,511,63,1087,3135,7231,15423,32767,65535] (.pu 0 (.pu 1 (.pu 2 (.pu 3 (.pu 4 (.pu 5 (.g 5 (.of 6 (.of 7 (.of 8 (.of 9 (.of 10 (.of 11 (.of 12 (.of 13 (.of 14 (.of 15 (.pu 16 (.st [4,5,6,7,8,9,10,11,12,13,14,15,16] .dn)))))))))))) (.pu 6 (.pu 7 (.pu 8 (.pu 10 (.pu 11 (.pu 12 (.pu 9 (.pu 13 (.pu 14 (.pu 15 (.pu 16 (.st [15,16] .dn)))))))))))))))))))) (.j [(0,.P),(19,.B)] (fun (t:Option Addr × Bool)=>Zc t.1 t.2) .o)) (.q (.r [0,1,2,4,0,16,32,64,136,511] [0,1,2,4,0,16,32,64,136,256] [0,1,3,7,0,16,48,112,255,511] (.pu 0 (.pu 1 (.pu 2 (.pu 4 (.pu 5 (.pu 6 (.pu 3 (.pu 7 (.pu 8 (.pu 9 (.st [8,9] .dn)))))))))))) .o))) Go.Proofs.Tryz.func181 rfl rfl ⟨rfl,trivial⟩ rfl (by kernel_rfl) (by kernel_rfl)
noncomputable def ZN:CalleeS Go.Proofs.Tryz.prog:=mkC YR YU [.P] [.I .u8] (fun (t:Option Addr)=>KR t) (fun (t:Option Addr)=>Yl t)
def Zb (x0:Int):M (Bool):=do
 let Xx3←M.ite (decide (x0 ≥ 48)) (do
  M.pure (decide (x0≤57))
  ) (do
  M.pure false
  )
 M.pure Xx3
theorem Nc (x0:Int):Kz Go.Proofs.Tryz.prog 182 #[.int .u8 x0] (fun (r:Bool)=>.bool r) (Zb x0) :=
 KO [] [] [.B] [(0,.I .u8 x0)] .o Go.Proofs.Tryz.func182 rfl rfl ⟨rfl,trivial⟩ rfl (by kernel_rfl) (by kernel_rfl)
noncomputable def VX:CalleeS Go.Proofs.Tryz.prog:=mkC GQ Gd [.I .u8] [.B] (fun (t:Int)=>Zb t) (fun (t:Int)=>Nc t)
def J3 (x0:Bool) (x1:Int):M (Int):=do
 M.ite x0 (do
  M.pure (IntKind.wrap .i64 (IntKind.wrap .u64 (0 - x1)))
  ) (do
  M.pure (IntKind.wrap .i64 x1)
  )
theorem Gp (x0:Bool) (x1:Int):Kz Go.Proofs.Tryz.prog 229 #[.bool x0,.int .u64 x1] (fun (r:Int)=>.int .i64 r) (J3 x0 x1) :=
 KO [] [] [.I .i64] [(0,.B x0),(1,.I .u64 x1)] .o Go.Proofs.Tryz.func229 rfl rfl ⟨rfl,rfl,trivial⟩ rfl (by kernel_rfl) (by kernel_rfl)
noncomputable def Gq:CalleeS Go.Proofs.Tryz.prog:=mkC Xg Xl [.B,.I .u64] [.I .i64] (fun (t:Bool × Int)=>J3 t.1 t.2) (fun (t:Bool × Int)=>Gp t.1 t.2)
def VH (C38:Bool) (C39:ByteArray) (C40:Int) (self2:(Int × Int)→M (Int × Int)):(Int × Int)→M (Int × Int):=fun s=>match s with
 | (Xx36,Xx37)=>do
  M.ite (decide (Xx37 < (C39.size:Int))) (do
   let Xx46←ixS C39 Xx37
   M.ite (decide (Xx36 > (IntKind.wrap .u64 (Int.tdiv (IntKind.wrap .u64 (C40 - (IntKind.wrap .u64 (IntKind.wrap .u8 (Xx46 - 48))))) 10)))) (do
    M.pure (0,7)
    ) (do
    self2 (IntKind.wrap .u64 ((IntKind.wrap .u64 (Xx36 * 10))+(IntKind.wrap .u64 (IntKind.wrap .u8 (Xx46 - 48)))),IntKind.wrap .i64 (Xx37+1))
    )
   ) (do
   let Xx51←J3 C38 Xx36
   M.pure (Xx51,0)
   )
def JY (C31:Bool) (C32:ByteArray) (Xx30:Int):M (Int × Int):=do
 M.loop (VH C31 C32 Xx30) (0,0)
def VI (C18:Bool) (C19:ByteArray) (self1:(Int)→M (Int × Int)):(Int)→M (Int × Int):=fun s=>match s with
 | Xx17=>do
  M.ite (decide (Xx17 < (C19.size:Int))) (do
   let Xx25←ixS C19 Xx17
   let Xx26←M.ite (decide (Xx25 < 48)) (do
    M.pure true
    ) (do
    let Xx27←ixS C19 Xx17
    M.pure (decide (Xx27 > 57))
    )
   M.ite Xx26 (do
    M.pure (0,10)
    ) (do
    self1 (IntKind.wrap .i64 (Xx17+1))
    )
   ) (do
   M.ite (!C18) (do
    JY C18 C19 (IntKind.wrap .u64 (9223372036854775808 - 1))
    ) (do
    JY C18 C19 9223372036854775808
    )
   )
def JZ (C7:Bool) (Xx6:ByteArray):M (Int × Int):=do
 let Xx10←M.ite (sEq Xx6 ByteArray.empty) (do
  M.pure true
  ) (do
  let Xx11←ixS Xx6 0
  let Xx12←M.ite (Xx11 == 48) (do
   let Xx13←M.ite (decide ((Xx6.size:Int) > 1)) (do
    M.pure true
    ) (do
    M.pure C7
    )
   M.pure Xx13
   ) (do
   M.pure false
   )
  M.pure Xx12
  )
 M.ite Xx10 (do
  M.pure (0,10)
  ) (do
  M.loop (VI C7 Xx6) 0
  )
def Je (x0:ByteArray):M (Int × Int):=do
 let Xx3←M.ite (decide ((x0.size:Int) > 0)) (do
  let Xx4←ixS x0 0
  M.pure (Xx4 == 45)
  ) (do
  M.pure false
  )
 M.ite Xx3 (do
  let Xx54←slS x0 1 x0.size
  JZ Xx3 Xx54
  ) (do
  JZ Xx3 x0
  )
theorem Nd (x0:ByteArray):Kz Go.Proofs.Tryz.prog 214 #[.string x0] (fun (r:Int × Int)=>.tuple #[.int .i64 r.1,.int .i64 r.2]) (Je x0) :=
 KO [Gq] [] [.I .i64,.I .i64] [(0,.S x0)] (.q .o (.q .o (.q .o (.q .o (.j [(4,.B),(5,.S)] (fun (t:Bool × ByteArray)=>JZ t.1 t.2) (.q .o (.q (.q .o (.b (.l [(4,.B),(5,.S)] [(6,.I .i64)] (fun (t:Bool × ByteArray)=>VI t.1 t.2) (fun _=>.o)))) (.q .o (.q .o (.j [(4,.B),(5,.S),(7,.I .u64)] (fun (t:Bool × ByteArray × Int)=>JY t.1 t.2.1 t.2.2) (.q .o (.q (.q .o (.b (.l [(4,.B),(5,.S),(7,.I .u64)] [(8,.I .u64),(9,.I .i64)] (fun (t:Bool × ByteArray × Int)=>VH t.1 t.2.1 t.2.2) (fun _=>.o)))) .o)))))))))))) Go.Proofs.Tryz.func214 rfl rfl ⟨rfl,trivial⟩ rfl (by kernel_rfl) (by kernel_rfl)
noncomputable def Ng:CalleeS Go.Proofs.Tryz.prog:=mkC GN Ga [.S] [.I .i64,.I .i64] (fun (t:ByteArray)=>Je t) (fun (t:ByteArray)=>Nd t)
end Gx
namespace Gx
open Go
set_option linter.unusedVariables false
set_option maxRecDepth 100000
def Jc (C35:Option Addr) (C36:Int) (self1:(Unit)→M (Int)):(Unit)→M (Int):=fun s=>match s with
 | ()=>do
  let Xx40←KR C35
  let Xx41←Zb Xx40
  M.ite Xx41 (do
   let Xx44←nilP C35
   let Xx45←nilP C35
   let Xx46←ldS ((Xx44).add 0)
   let Xx47←ldI .i64 ((Xx45).add 1)
   let Xx48←slS Xx46 C36 (IntKind.wrap .i64 (Xx47+1))
   let Xx49←Je Xx48
   M.ite (Xx49.2 != 0) (do
    let Xx52←nilP C35
    let Xx53←ldI .i64 ((Xx52).add 1)
    let Xx54←KQ C35 Xx53
    M.pure 0
    ) (do
    let Xx56←nilP C35
    let Xx57←ldI .i64 ((Xx56).add 1)
    let Xx58←nilP C35
    stV ((Xx58).add 1) (.int .i64 (IntKind.wrap .i64 (Xx57+1)))
    self1 ()
    )
   ) (do
   let Xx61←nilP C35
   let Xx62←nilP C35
   let Xx63←ldS ((Xx61).add 0)
   let Xx64←ldI .i64 ((Xx62).add 1)
   let Xx65←slS Xx63 C36 Xx64
   let Xx66←Je Xx65
   M.pure Xx66.1
   )
def ZE (C5:Option Addr) (C6:Int):M (Int):=do
 let Xx9←KR C5
 let Xx10←Zb Xx9
 M.ite (!Xx10) (do
  let Xx12←nilP C5
  let Xx13←ldI .i64 ((Xx12).add 1)
  let Xx14←KQ C5 Xx13
  M.pure 0
  ) (do
  let Xx18←KR C5
  M.ite (Xx18 == 48) (do
   let Xx21←nilP C5
   let Xx22←ldI .i64 ((Xx21).add 1)
   M.ite (decide (Xx22 > C6)) (do
    let Xx24←nilP C5
    let Xx25←ldI .i64 ((Xx24).add 1)
    let Xx26←KQ C5 Xx25
    M.pure 0
    ) (do
    let Xx29←nilP C5
    let Xx30←ldI .i64 ((Xx29).add 1)
    let Xx31←nilP C5
    stV ((Xx31).add 1) (.int .i64 (IntKind.wrap .i64 (Xx30+1)))
    M.pure 0
    )
   ) (do
   M.loop (Jc C5 C6) ()
   )
  )
def Ky (x0:Option Addr) (x1:Bool):M (Int):=do
 let Xx3←nilP x0
 let Xx4←ldI .i64 ((Xx3).add 1)
 let Xx69←M.ite x1 (do
  let Xx70←KR x0
  M.pure (Xx70 == 45)
  ) (do
  M.pure false
  )
 M.ite Xx69 (do
  let Xx71←nilP x0
  let Xx72←ldI .i64 ((Xx71).add 1)
  let Xx73←nilP x0
  stV ((Xx73).add 1) (.int .i64 (IntKind.wrap .i64 (Xx72+1)))
  ZE x0 Xx4
  ) (do
  ZE x0 Xx4
  )
theorem YD (x0:Option Addr) (x1:Bool):Kz Go.Proofs.Tryz.prog 183 #[.pointer x0,.bool x1] (fun (r:Int)=>.int .i64 r) (Ky x0 x1) :=
 KO [ZM,ZN,VX,Ng] [0,10,16,20,27,31,32,37,40,46,47,52,59,63,68,79,80,85,93,98] [.I .i64] [(0,.P x0),(1,.B x1)] (.q .o (.q .o (.q .o (.j [(0,.P),(5,.I .i64)] (fun (t:Option Addr × Int)=>ZE t.1 t.2) (.q .o (.q .o (.q (.b (.l [(0,.P),(5,.I .i64)] [] (fun (t:Option Addr × Int)=>Jc t.1 t.2) (fun _=>.q .o (.b (.q (.q (.r [0,1,2,4,0,0,32,64,128,256,536,1024,2048,4096,4096,16383,65535] [0,1,2,4,0,0,32,64,128,256,536,1024,2048,4096,4096,8192,16384] [0,1,3,7,0,0,32,96,224,480,1023,2047,4095,8191,8191,16383,65535] (.pu 0 (.pu 1 (.pu 2 (.pu 4 (.pu 5 (.pu 6 (.pu 7 (.pu 3 (.pu 8 (.pu 9 (.pu 10 (.st [10,11,12,13,14,15,16] (.on 11 (.pu 12 (.pu 13 (.pu 14 (.pu 15 (.pu 16 (.nx .dn)))))))))))))))))))) .o) .o))))) (.q (.r [0,1,2,4,0,0,32,64,128,280,512,1024,2048,2048,8191,32767] [0,1,2,4,0,0,32,64,128,280,512,1024,2048,2048,4096,8192] [0,1,3,7,0,0,32,96,224,511,1023,2047,4095,4095,8191,32767] (.pu 0 (.pu 1 (.pu 2 (.pu 4 (.pu 5 (.pu 6 (.pu 7 (.pu 3 (.pu 8 (.pu 9 (.st [9,10,11,12,13,14,15] (.on 10 (.pu 11 (.pu 12 (.pu 13 (.pu 14 (.pu 15 (.nx .dn))))))))))))))))))) .o)))))))) Go.Proofs.Tryz.func183 rfl rfl ⟨rfl,rfl,trivial⟩ rfl (by kernel_rfl) (by kernel_rfl)
noncomputable def YE:CalleeS Go.Proofs.Tryz.prog:=mkC Wp Ws [.P,.B] [.I .i64] (fun (t:Option Addr × Bool)=>Ky t.1 t.2) (fun (t:Option Addr × Bool)=>YD t.1 t.2)
def K9 (self1:(Int)→M (Unit)) (C11:Option Addr) (C13:Int) (Xx10:Bool):M (Unit):=do
 M.ite Xx10 (do
  let Xx15←nilP C11
  let Xx16←ldI .i64 ((Xx15).add 1)
  let Xx17←KQ C11 Xx16
  M.pure ()
  ) (do
  let Xx18←nilP C11
  let Xx19←ldI .i64 ((Xx18).add 1)
  let Xx20←nilP C11
  stV ((Xx20).add 1) (.int .i64 (IntKind.wrap .i64 (Xx19+1)))
  self1 (IntKind.wrap .i64 (C13+1))
  )
def Z9 (C3:Option Addr) (C4:ByteArray) (self1:(Int)→M (Unit)):(Int)→M (Unit):=fun s=>match s with
 | Xx2=>do
  M.ite (decide (Xx2 < (C4.size:Int))) (do
   let Xx22←ixS C4 Xx2
   let Xx23←KR C3
   M.ite (Xx23 != Xx22) (do
    K9 self1 C3 Xx2 true
    ) (do
    let Xx25←nilP C3
    let Xx26←nilP C3
    let Xx27←ldI .i64 ((Xx25).add 1)
    let Xx28←ldS ((Xx26).add 0)
    K9 self1 C3 Xx2 (decide (Xx27 ≥ (Xx28.size:Int)))
    )
   ) (do
   M.pure ()
   )
def KN (x0:Option Addr) (x1:ByteArray):M (Unit):=do
 M.loop (Z9 x0 x1) 0
theorem Ym (x0:Option Addr) (x1:ByteArray):Kz Go.Proofs.Tryz.prog 185 #[.pointer x0,.string x1] (fun (r:Unit)=>.tuple #[]) (KN x0 x1) :=
 KO [ZM,ZN] [0,11,18,22,29,30,35] [] [(0,.P x0),(1,.S x1)] (.q .o (.b (.l [(0,.P),(1,.S)] [(4,.I .i64)] (fun (t:Option Addr × ByteArray)=>Z9 t.1 t.2) (fun self1=>.q .o (.q (.b (.q (.q (.r [0,1,0,0,12,18,34,64,192,320,576,64,2112,4160,8256,16448,33856,65600] [0,1,0,0,12,18,32,64,192,320,576,64,2112,4160,8256,16448,33856,65600] [0,1,0,0,12,31,63,127,255,511,1023,127,2175,6271,14463,30847,65535,131071] (.pu 0 (.pu 2 (.pu 3 (.pu 4 (.st [0,1,2,3,4,5,6,7,8,9,10,11,12,13,14,15,16,17] (.on 1 (.pu 5 (.pu 6 (.g 6 (.of 7 (.of 8 (.of 9 (.of 10 (.of 11 (.of 12 (.of 13 (.of 14 (.of 15 (.of 16 (.pu 17 (.nx .dn)))))))))))) (.pu 7 (.pu 8 (.pu 9 (.pu 11 (.pu 12 (.pu 13 (.pu 10 (.pu 14 (.pu 15 (.pu 16 (.pu 17 (.st [16,17] .dn)))))))))))))))))))))) (.j [(0,.P),(1,.S),(4,.I .i64),(28,.B)] (fun (t:Option Addr × ByteArray × Int × Bool)=>K9 self1 t.1 t.2.2.1 t.2.2.2) .o)) .o)) .o))))) Go.Proofs.Tryz.func185 rfl rfl ⟨rfl,rfl,trivial⟩ rfl (by kernel_rfl) (by kernel_rfl)
noncomputable def JN:CalleeS Go.Proofs.Tryz.prog:=mkC YS YW [.P,.S] [] (fun (t:Option Addr × ByteArray)=>KN t.1 t.2) (fun (t:Option Addr × ByteArray)=>Ym t.1 t.2)
def Jj (x0:Int):M (Int):=do
 let Xx4←Zb x0
 M.ite Xx4 (do
  M.pure (IntKind.wrap .i64 (IntKind.wrap .u8 (x0 - 48)))
  ) (do
  let Xx7←M.ite (decide (x0 ≥ 97)) (do
   M.pure (decide (x0≤102))
   ) (do
   M.pure false
   )
  M.ite Xx7 (do
   M.pure (IntKind.wrap .i64 ((IntKind.wrap .i64 (IntKind.wrap .u8 (x0 - 97)))+10))
   ) (do
   M.pure (-1)
   )
  )
theorem zH (x0:Int):Kz Go.Proofs.Tryz.prog 230 #[.int .u8 x0] (fun (r:Int)=>.int .i64 r) (Jj x0) :=
 KO [VX] [] [.I .i64] [(0,.I .u8 x0)] .o Go.Proofs.Tryz.func230 rfl rfl ⟨rfl,trivial⟩ rfl (by kernel_rfl) (by kernel_rfl)
noncomputable def zI:CalleeS Go.Proofs.Tryz.prog:=mkC qC qP [.I .u8] [.I .i64] (fun (t:Int)=>Jj t) (fun (t:Int)=>zH t)
def Zd (x0:Option Addr):M (Int):=do
 let Xx3←KR x0
 let Xx6←M.ite (Xx3 == 39) (do
  M.pure true
  ) (do
  M.pure (Xx3 == 92)
  )
 M.ite Xx6 (do
  let Xx8←nilP x0
  let Xx9←ldI .i64 ((Xx8).add 1)
  let Xx10←nilP x0
  stV ((Xx10).add 1) (.int .i64 (IntKind.wrap .i64 (Xx9+1)))
  M.pure Xx3
  ) (do
  let Xx14←KN x0 (⟨#[120]⟩:ByteArray)
  let Xx16←KR x0
  let Xx17←Jj Xx16
  let Xx20←M.ite (decide (Xx17 < 0)) (do
   M.pure true
   ) (do
   let Xx21←M.ite (decide (Xx17 ≥ 2)) (do
    M.pure (decide (Xx17 < 7))
    ) (do
    M.pure false
    )
   M.pure Xx21
   )
  M.ite Xx20 (do
   let Xx23←nilP x0
   let Xx24←ldI .i64 ((Xx23).add 1)
   let Xx25←KQ x0 Xx24
   M.pure 0
   ) (do
   let Xx28←nilP x0
   let Xx29←ldI .i64 ((Xx28).add 1)
   let Xx30←nilP x0
   stV ((Xx30).add 1) (.int .i64 (IntKind.wrap .i64 (Xx29+1)))
   let Xx33←KR x0
   let Xx34←Jj Xx33
   let Xx37←M.ite (decide (Xx34 < 0)) (do
    M.pure true
    ) (do
    let Xx38←M.ite (Xx17 == 7) (do
     M.pure (Xx34 != 15)
     ) (do
     M.pure false
     )
    M.pure Xx38
    )
   M.ite Xx37 (do
    let Xx40←nilP x0
    let Xx41←ldI .i64 ((Xx40).add 1)
    let Xx42←KQ x0 Xx41
    M.pure 0
    ) (do
    let Xx45←nilP x0
    let Xx46←ldI .i64 ((Xx45).add 1)
    let Xx47←nilP x0
    stV ((Xx47).add 1) (.int .i64 (IntKind.wrap .i64 (Xx46+1)))
    M.pure (IntKind.wrap .u8 (IntKind.wrap .i64 ((IntKind.wrap .i64 (16 * Xx17))+Xx34)))
    )
   )
  )
theorem Wt (x0:Option Addr):Kz Go.Proofs.Tryz.prog 215 #[.pointer x0] (fun (r:Int)=>.int .u8 r) (Zd x0) :=
 KO [ZM,ZN,JN,zI] [0,6,14,22,24,37,38,43,50,63,64,69] [.I .u8] [(0,.P x0)] .o Go.Proofs.Tryz.func215 rfl rfl ⟨rfl,trivial⟩ rfl (by kernel_rfl) (by kernel_rfl)
noncomputable def Wu:CalleeS Go.Proofs.Tryz.prog:=mkC Wb We [.P] [.I .u8] (fun (t:Option Addr)=>Zd t) (fun (t:Option Addr)=>Wt t)
def ZC (self1:(Sl)→M (ByteArray)) (C16:Option Addr) (C17:Sl) (C18:Int) (Xx15:Bool):M (ByteArray):=do
 M.ite Xx15 (do
  let Xx19←nilP C16
  let Xx20←ldI .i64 ((Xx19).add 1)
  let Xx21←KQ C16 Xx20
  self1 C17
  ) (do
  M.ite (C18 == 39) (do
   let Xx24←nilP C16
   let Xx25←ldI .i64 ((Xx24).add 1)
   let Xx26←nilP C16
   stV ((Xx26).add 1) (.int .i64 (IntKind.wrap .i64 (Xx25+1)))
   let Xx29←b2s C17
   M.pure Xx29
   ) (do
   M.ite (C18 == 92) (do
    let Xx32←nilP C16
    let Xx33←ldI .i64 ((Xx32).add 1)
    let Xx34←nilP C16
    stV ((Xx34).add 1) (.int .i64 (IntKind.wrap .i64 (Xx33+1)))
    let Xx36←Zd C16
    let Xx37←bdL Zm 1 #[.int .u8 Xx36]
    let Xx38←apL Zm 1 1 (#[.int .u8 0]:Array Value) C17 Xx37
    self1 Xx38
    ) (do
    let Xx40←nilP C16
    let Xx41←ldI .i64 ((Xx40).add 1)
    let Xx42←nilP C16
    stV ((Xx42).add 1) (.int .i64 (IntKind.wrap .i64 (Xx41+1)))
    let Xx44←bdL Zm 1 #[.int .u8 C18]
    let Xx45←apL Zm 1 1 (#[.int .u8 0]:Array Value) C17 Xx44
    self1 Xx45
    )
   )
  )
def JO (C7:Option Addr) (self1:(Sl)→M (ByteArray)):(Sl)→M (ByteArray):=fun s=>match s with
 | Xx6=>do
  let Xx11←nilP C7
  let Xx12←ldI .i64 ((Xx11).add 2)
  M.ite (decide (Xx12 < 0)) (do
   let Xx14←KR C7
   let Xx46←nilP C7
   let Xx47←nilP C7
   let Xx48←ldI .i64 ((Xx46).add 1)
   let Xx49←ldS ((Xx47).add 0)
   M.ite (decide (Xx48 ≥ (Xx49.size:Int))) (do
    ZC self1 C7 Xx6 Xx14 true
    ) (do
    M.ite (decide (Xx14 < 32)) (do
     ZC self1 C7 Xx6 Xx14 true
     ) (do
     ZC self1 C7 Xx6 Xx14 (decide (Xx14 > 126))
     )
    )
   ) (do
   M.pure ByteArray.empty
   )
def JB (x0:Option Addr):M (ByteArray):=do
 let Xx4←KN x0 (⟨#[39]⟩:ByteArray)
 M.loop (JO x0) Sl.nil
theorem Yv (x0:Option Addr):Kz Go.Proofs.Tryz.prog 184 #[.pointer x0] (fun (r:ByteArray)=>.string r) (JB x0) :=
 KO [ZM,ZN,JN,Wu] [0,5,7,12,14,26,30,44,45,53,65,73] [.S] [(0,.P x0)] (.q .o (.q .o (.q .o (.q (.b (.l [(0,.P)] [(3,.L)] (fun (t:Option Addr)=>JO t) (fun self1=>.q .o (.b (.q .o (.b (.q (.r [0,1,2,4,0,16,32,64,128,264,512,1024,3072,5120,9216,16384,49152,81920,147456] [0,1,2,4,0,16,32,64,128,264,512,1024,3072,5120,8192,16384,49152,81920,131072] [0,1,3,7,0,16,48,112,240,511,1023,2047,4095,8191,16383,32767,65535,131071,262143] (.pu 0 (.pu 1 (.pu 2 (.pu 4 (.pu 5 (.pu 6 (.pu 3 (.pu 7 (.pu 8 (.pu 9 (.pu 10 (.g 10 (.of 11 (.of 12 (.pu 13 (.pu 14 (.of 15 (.of 16 (.pu 17 (.pu 18 (.st [9,10,11,12,13,14,15,16,17,18] .dn))))))))) (.pu 11 (.pu 12 (.pu 13 (.pu 14 (.g 14 (.of 15 (.of 16 (.pu 17 (.pu 18 (.st [9,10,11,12,13,14,15,16,17,18] .dn))))) (.pu 15 (.pu 16 (.pu 17 (.pu 18 (.st [9,10,11,12,13,14,15,16,17,18] .dn))))))))))))))))))))))) (.j [(0,.P),(3,.L),(4,.I .u8),(25,.B)] (fun (t:Option Addr × Sl × Int × Bool)=>ZC self1 t.1 t.2.1 t.2.2.1 t.2.2.2) .o)))))))) .o)))) Go.Proofs.Tryz.func184 rfl rfl ⟨rfl,trivial⟩ rfl (by kernel_rfl) (by kernel_rfl)
noncomputable def Yw:CalleeS Go.Proofs.Tryz.prog:=mkC Yh Yi [.P] [.S] (fun (t:Option Addr)=>JB t) (fun (t:Option Addr)=>Yv t)
def Jt (x0:Bool):M (Array Value):=do
 let Xx2←mkB KE (#[.int .i64 0,.int .i64 0,.string ByteArray.empty,.slice none 0 0]:Array Value)
 M.ite x0 (do
  M.need ((#[.int .i64 3,.int .i64 1,.string ByteArray.empty,.slice none 0 0]:Array Value).size=4)
  stG Xx2 (#[.int .i64 3,.int .i64 1,.string ByteArray.empty,.slice none 0 0]:Array Value)
  let Rr7←ldG 4 Xx2
  M.pure Rr7
  ) (do
  M.need ((#[.int .i64 3,.int .i64 0,.string ByteArray.empty,.slice none 0 0]:Array Value).size=4)
  stG Xx2 (#[.int .i64 3,.int .i64 0,.string ByteArray.empty,.slice none 0 0]:Array Value)
  let Rr10←ldG 4 Xx2
  M.pure Rr10
  )
theorem qg (x0:Bool):Kz Go.Proofs.Tryz.prog 186 #[.bool x0] (fun (r:Array Value)=>.agg r) (Jt x0) :=
 KO [] [] [.G] [(0,.B x0)] .o Go.Proofs.Tryz.func186 rfl rfl ⟨rfl,trivial⟩ rfl (by kernel_rfl) (by kernel_rfl)
noncomputable def qh:CalleeS Go.Proofs.Tryz.prog:=mkC NE NM [.B] [.G] (fun (t:Bool)=>Jt t) (fun (t:Bool)=>qg t)
def Ke (C56:Option Addr) (C57:Addr) (C58:Addr):M (Array Value):=do
 let Xx60←KN C56 (⟨#[93]⟩:ByteArray)
 let Xx62←ldG 4 C58
 M.need (Xx62.size=4)
 stG C57 Xx62
 let Rr64←ldG 4 C57
 M.pure Rr64
def ZV (x0:Option Addr) (x1:Int):M (Array Value):=do
 let Xx2←mkB KE (#[.int .i64 0,.int .i64 0,.string ByteArray.empty,.slice none 0 0]:Array Value)
 M.ite (decide (x1 ≥ 8)) (do
  let Xx6←nilP x0
  let Xx7←ldI .i64 ((Xx6).add 1)
  let Xx8←KQ x0 Xx7
  M.need ((#[.int .i64 0,.int .i64 0,.string ByteArray.empty,.slice none 0 0]:Array Value).size=4)
  stG Xx2 (#[.int .i64 0,.int .i64 0,.string ByteArray.empty,.slice none 0 0]:Array Value)
  let Rr11←ldG 4 Xx2
  M.pure Rr11
  ) (do
  let Xx14←KR x0
  let Xx16←M.ite (Xx14 == 45) (do
   M.pure true
   ) (do
   let Xx17←Zb Xx14
   M.pure Xx17
   )
  M.ite Xx16 (do
   let Xx19←Ky x0 true
   let Xx20←Vn Xx19
   M.need (Xx20.size=4)
   stG Xx2 Xx20
   let Rr22←ldG 4 Xx2
   M.pure Rr22
   ) (do
   M.ite (Xx14 == 39) (do
    let Xx25←JB x0
    let Xx26←Vo Xx25
    M.need (Xx26.size=4)
    stG Xx2 Xx26
    let Rr28←ldG 4 Xx2
    M.pure Rr28
    ) (do
    M.ite (Xx14 == 116) (do
     let Xx31←KN x0 (⟨#[116,114,117,101]⟩:ByteArray)
     let Xx33←Jt true
     M.need (Xx33.size=4)
     stG Xx2 Xx33
     let Rr35←ldG 4 Xx2
     M.pure Rr35
     ) (do
     M.ite (Xx14 == 102) (do
      let Xx38←KN x0 (⟨#[102,97,108,115,101]⟩:ByteArray)
      let Xx40←Jt false
      M.need (Xx40.size=4)
      stG Xx2 Xx40
      let Rr42←ldG 4 Xx2
      M.pure Rr42
      ) (do
      let Xx44←M.ite (Xx14 == 118) (do
       M.pure true
       ) (do
       M.pure (Xx14 == 101)
       )
      M.ite Xx44 (do
       let Xx46←nilP x0
       let Xx47←ldI .i64 ((Xx46).add 1)
       let Xx48←nilP x0
       stV ((Xx48).add 1) (.int .i64 (IntKind.wrap .i64 (Xx47+1)))
       let Xx51←KN x0 (⟨#[91]⟩:ByteArray)
       let Xx53←Ky x0 true
       let Xx54←mkB KE (#[.int .i64 0,.int .i64 0,.string ByteArray.empty,.slice none 0 0]:Array Value)
       M.need ((#[.int .i64 7,.int .i64 Xx53,.string ByteArray.empty,.slice none 0 0]:Array Value).size=4)
       stG Xx54 (#[.int .i64 7,.int .i64 Xx53,.string ByteArray.empty,.slice none 0 0]:Array Value)
       M.ite (Xx14 == 118) (do
        stV ((Xx54).add 0) (.int .i64 6)
        Ke x0 Xx2 Xx54
        ) (do
        Ke x0 Xx2 Xx54
        )
       ) (do
       M.ite (Xx14 == 91) (do
        let Xx69←nilP x0
        let Xx70←ldI .i64 ((Xx69).add 1)
        let Xx71←nilP x0
        stV ((Xx71).add 1) (.int .i64 (IntKind.wrap .i64 (Xx70+1)))
        let Xx74←Y8 Go.Proofs.Tryz.prog Z8 #[.pointer x0,.int .i64 x1,.string (⟨#[44,32]⟩:ByteArray),.int .u8 93] (fun r:Sl=>(r:Sl).v)
        M.need ((#[.int .i64 4,.int .i64 0,.string ByteArray.empty,(Xx74:Sl).v]:Array Value).size=4)
        stG Xx2 (#[.int .i64 4,.int .i64 0,.string ByteArray.empty,(Xx74:Sl).v]:Array Value)
        let Rr76←ldG 4 Xx2
        M.pure Rr76
        ) (do
        M.ite (Xx14 == 123) (do
         let Xx79←nilP x0
         let Xx80←ldI .i64 ((Xx79).add 1)
         let Xx81←nilP x0
         stV ((Xx81).add 1) (.int .i64 (IntKind.wrap .i64 (Xx80+1)))
         let Xx84←Y8 Go.Proofs.Tryz.prog Z8 #[.pointer x0,.int .i64 x1,.string (⟨#[58,32]⟩:ByteArray),.int .u8 125] (fun r:Sl=>(r:Sl).v)
         M.need ((#[.int .i64 5,.int .i64 0,.string ByteArray.empty,(Xx84:Sl).v]:Array Value).size=4)
         stG Xx2 (#[.int .i64 5,.int .i64 0,.string ByteArray.empty,(Xx84:Sl).v]:Array Value)
         let Rr86←ldG 4 Xx2
         M.pure Rr86
         ) (do
         let Xx88←nilP x0
         let Xx89←ldI .i64 ((Xx88).add 1)
         let Xx90←KQ x0 Xx89
         M.need ((#[.int .i64 0,.int .i64 0,.string ByteArray.empty,.slice none 0 0]:Array Value).size=4)
         stG Xx2 (#[.int .i64 0,.int .i64 0,.string ByteArray.empty,.slice none 0 0]:Array Value)
         let Rr93←ldG 4 Xx2
         M.pure Rr93
         )
        )
       )
      )
     )
    )
   )
  )
theorem U5 (x0:Option Addr) (x1:Int):Kz Go.Proofs.Tryz.prog 128 #[.pointer x0,.int .i64 x1] (fun (r:Array Value)=>.agg r) (ZV x0 x1) :=
 KO [ZM,ZN,VX,YE,Yw,JN,qh,mkC Z8 YV [.P,.I .i64,.S,.I .u8] [.L] (fun (t:Option Addr × Int × ByteArray × Int)=>Y8 Go.Proofs.Tryz.prog Z8 #[.pointer t.1,.int .i64 t.2.1,.string t.2.2.1,.int .u8 t.2.2.2] (fun r:Sl=>(r:Sl).v)) (fun (t:Option Addr × Int × ByteArray × Int)=>VR),zE,zG] [0,9,10,16,25,31,37,43,53,60,62,68,74,81,88,95,99,100] [.G] [(0,.P x0),(1,.I .i64 x1)] (.q .o (.q .o (.q (.q .o (.b (.q .o (.q .o (.q .o (.q .o (.q .o (.q .o (.q .o (.q .o (.q .o (.q (.q .o (.q .o (.q .o (.q .o (.j [(0,.P),(4,.A),(6,.A)] (fun (t:Option Addr × Addr × Addr)=>Ke t.1 t.2.1 t.2.2) .o))))) .o)))))))))))) .o))) Go.Proofs.Tryz.func128 rfl rfl ⟨rfl,rfl,trivial⟩ rfl (by kernel_rfl) (by kernel_rfl)
noncomputable def YX:CalleeS Go.Proofs.Tryz.prog:=mkC ZY Us [.P,.I .i64] [.G] (fun (t:Option Addr × Int)=>ZV t.1 t.2) (fun (t:Option Addr × Int)=>U5 t.1 t.2)
def Z0 (C9:Addr) (C10:Option Addr) (C11:Addr):M (Array Value × Int × Int):=do
 let Xx14←nilP C10
 let Xx15←ldI .i64 ((Xx14).add 2)
 M.ite (decide (Xx15 ≥ 0)) (do
  let Xx17←nilP C10
  let Xx18←ldI .i64 ((Xx17).add 2)
  M.need ((#[.int .i64 0,.int .i64 0,.string ByteArray.empty,.slice none 0 0]:Array Value).size=4)
  stG C9 (#[.int .i64 0,.int .i64 0,.string ByteArray.empty,.slice none 0 0]:Array Value)
  chk (fun h:Heap=>(KV h ((Xx17).add 2)=some (.int .i64 Xx18)))
  let Rr20←ldG 4 C9
  M.pure (Rr20,Xx18,22)
  ) (do
  let Xx23←ldG 4 C11
  let Xx24←UK Xx23
  M.ite (Xx24 != 0) (do
   M.need ((#[.int .i64 0,.int .i64 0,.string ByteArray.empty,.slice none 0 0]:Array Value).size=4)
   stG C9 (#[.int .i64 0,.int .i64 0,.string ByteArray.empty,.slice none 0 0]:Array Value)
   let Rr27←ldG 4 C9
   M.pure (Rr27,0,20)
   ) (do
   let Xx29←ldG 4 C11
   M.need (Xx29.size=4)
   stG C9 Xx29
   let Rr31←ldG 4 C9
   M.pure (Rr31,0,0)
   )
  )
def Jf (x0:ByteArray):M (Array Value × Int × Int):=do
 let Xx2←mkB KE (#[.int .i64 0,.int .i64 0,.string ByteArray.empty,.slice none 0 0]:Array Value)
 let Xx4←mkB ZJ (#[.string x0,.int .i64 0,.int .i64 (-1)]:Array Value)
 let Xx6←ZV (some Xx4) 0
 let Xx7←mkB KE (#[.int .i64 0,.int .i64 0,.string ByteArray.empty,.slice none 0 0]:Array Value)
 M.need (Xx6.size=4)
 stG Xx7 Xx6
 let Xx33←nilP (some Xx4)
 let Xx34←ldI .i64 ((Xx33).add 2)
 let Xx35←M.ite (decide (Xx34 < 0)) (do
  let Xx36←nilP (some Xx4)
  let Xx37←ldI .i64 ((Xx36).add 1)
  M.pure (decide (Xx37 < (x0.size:Int)))
  ) (do
  M.pure false
  )
 M.ite Xx35 (do
  let Xx38←nilP (some Xx4)
  let Xx39←ldI .i64 ((Xx38).add 1)
  let Xx40←KQ (some Xx4) Xx39
  Z0 Xx2 (some Xx4) Xx7
  ) (do
  Z0 Xx2 (some Xx4) Xx7
  )
theorem Nh (x0:ByteArray):Kz Go.Proofs.Tryz.prog 97 #[.string x0] (fun (r:Array Value × Int × Int)=>.tuple #[.agg r.1,.int .i64 r.2.1,.int .i64 r.2.2]) (Jf x0) :=
 KO [YX,ZM,Nb] [5,10,12,18,26,27,32,38] [.G,.I .i64,.I .i64] [(0,.S x0)] (.q .o (.q .o (.q .o (.q .o (.j [(2,.A),(5,.P),(6,.A)] (fun (t:Addr × Option Addr × Addr)=>Z0 t.1 t.2.1 t.2.2) (.q (.q .o (.q (.q (.r [0,0,2,4,8,1,63,127] [0,0,2,4,8,1,16,0] [0,0,2,6,14,1,63,127] (.pu 0 (.pu 1 (.pu 2 (.pu 3 (.pu 4 (.st [6,7] (.on 5 (.pu 6 (.pu 7 (.nx .dn))))))))))) .o) .o)) .o)))))) Go.Proofs.Tryz.func97 rfl rfl ⟨rfl,trivial⟩ rfl (by kernel_rfl) (by kernel_rfl)
noncomputable def Ni:CalleeS Go.Proofs.Tryz.prog:=mkC GP Gc [.S] [.G,.I .i64,.I .i64] (fun (t:ByteArray)=>Jf t) (fun (t:ByteArray)=>Nh t)
def J4 (C43:ByteArray) (C44:Addr) (Xx42:Int):M (Array Value × Int):=do
 let Xx46←slS C43 Xx42 C43.size
 let Xx47←Js Xx46
 let Xx49←slS C43 0 (IntKind.wrap .i64 (Xx42+Xx47))
 let Xx50←Jf Xx49
 let Xx51←mkB KE (#[.int .i64 0,.int .i64 0,.string ByteArray.empty,.slice none 0 0]:Array Value)
 M.need (Xx50.1.size=4)
 stG Xx51 Xx50.1
 let Xx55←M.ite (Xx47 == 0) (do
  M.pure true
  ) (do
  M.pure (Xx50.2.2 != 0)
  )
 let Xx56←M.ite Xx55 (do
  M.pure true
  ) (do
  let Xx57←ldI .i64 ((Xx51).add 0)
  M.pure (Xx57 != 1)
  )
 M.ite Xx56 (do
  M.need ((#[.int .i64 0,.string ByteArray.empty,.int .i64 0,.int .i64 0]:Array Value).size=4)
  stG C44 (#[.int .i64 0,.string ByteArray.empty,.int .i64 0,.int .i64 0]:Array Value)
  let Rr60←ldG 4 C44
  M.pure (Rr60,0)
  ) (do
  let Xx62←ldI .i64 ((Xx51).add 1)
  M.need ((#[.int .i64 2,.string ByteArray.empty,.int .i64 Xx62,.int .i64 0]:Array Value).size=4)
  stG C44 (#[.int .i64 2,.string ByteArray.empty,.int .i64 Xx62,.int .i64 0]:Array Value)
  let Rr64←ldG 4 C44
  M.pure (Rr64,IntKind.wrap .i64 (Xx42+Xx47))
  )
def UL (x0:ByteArray):M (Array Value × Int):=do
 let Xx2←mkB KP (#[.int .i64 0,.string ByteArray.empty,.int .i64 0,.int .i64 0]:Array Value)
 let Xx5←ixS x0 0
 let Xx6←Jr Xx5
 M.ite Xx6 (do
  let Xx8←slS x0 0 1
  M.need ((#[.int .i64 4,.string Xx8,.int .i64 0,.int .i64 0]:Array Value).size=4)
  stG Xx2 (#[.int .i64 4,.string Xx8,.int .i64 0,.int .i64 0]:Array Value)
  let Rr10←ldG 4 Xx2
  M.pure (Rr10,1)
  ) (do
  let Xx13←ixS x0 0
  let Xx14←JW Xx13
  M.ite Xx14 (do
   let Xx16←Js x0
   let Xx18←slS x0 0 Xx16
   M.need ((#[.int .i64 1,.string Xx18,.int .i64 0,.int .i64 0]:Array Value).size=4)
   stG Xx2 (#[.int .i64 1,.string Xx18,.int .i64 0,.int .i64 0]:Array Value)
   let Rr20←ldG 4 Xx2
   M.pure (Rr20,Xx16)
   ) (do
   let Xx23←J1 x0
   M.ite (decide (Xx23 > 0)) (do
    let Xx26←slS x0 0 Xx23
    let Xx27←Jf Xx26
    let Xx28←mkB KE (#[.int .i64 0,.int .i64 0,.string ByteArray.empty,.slice none 0 0]:Array Value)
    M.need (Xx27.1.size=4)
    stG Xx28 Xx27.1
    let Xx32←M.ite (Xx27.2.2 != 0) (do
     M.pure true
     ) (do
     let Xx33←ldI .i64 ((Xx28).add 0)
     M.pure (Xx33 != 2)
     )
    M.ite Xx32 (do
     M.need ((#[.int .i64 0,.string ByteArray.empty,.int .i64 0,.int .i64 0]:Array Value).size=4)
     stG Xx2 (#[.int .i64 0,.string ByteArray.empty,.int .i64 0,.int .i64 0]:Array Value)
     let Rr36←ldG 4 Xx2
     M.pure (Rr36,0)
     ) (do
     let Xx38←ldS ((Xx28).add 2)
     M.need ((#[.int .i64 3,.string Xx38,.int .i64 0,.int .i64 0]:Array Value).size=4)
     stG Xx2 (#[.int .i64 3,.string Xx38,.int .i64 0,.int .i64 0]:Array Value)
     let Rr40←ldG 4 Xx2
     M.pure (Rr40,Xx23)
     )
    ) (do
    let Xx66←ixS x0 0
    M.ite (Xx66 == 45) (do
     J4 x0 Xx2 1
     ) (do
     J4 x0 Xx2 0
     )
    )
   )
  )
theorem zJ (x0:ByteArray):Kz Go.Proofs.Tryz.prog 48 #[.string x0] (fun (r:Array Value × Int)=>.tuple #[.agg r.1,.int .i64 r.2]) (UL x0) :=
 KO [Ye,Wk,qa,Gn,Ni] [] [.G,.I .i64] [(0,.S x0)] (.q .o (.q .o (.q .o (.q .o (.q .o (.q .o (.j [(0,.S),(2,.A),(9,.I .i64)] (fun (t:ByteArray × Addr × Int)=>J4 t.1 t.2.1 t.2.2) .o))))))) Go.Proofs.Tryz.func48 rfl rfl ⟨rfl,trivial⟩ rfl (by kernel_rfl) (by kernel_rfl)
noncomputable def Yx:CalleeS Go.Proofs.Tryz.prog:=mkC qF qS [.S] [.G,.I .i64] (fun (t:ByteArray)=>UL t) (fun (t:ByteArray)=>zJ t)
def VJ (self1:(Sl × Int)→M (Sl × Int)) (C11:ByteArray) (C12:Int) (C13:Sl) (self2:(Int)→M (Sl × Int)):(Int)→M (Sl × Int):=fun s=>match s with
 | Xx10=>do
  let Xx17←M.ite (decide (Xx10 < (C11.size:Int))) (do
   let Xx18←ixS C11 Xx10
   let Xx19←M.ite (Xx18 == 32) (do
    M.pure true
    ) (do
    let Xx20←ixS C11 Xx10
    M.pure (Xx20 == 10)
    )
   M.pure Xx19
   ) (do
   M.pure false
   )
  M.ite Xx17 (do
   self2 (IntKind.wrap .i64 (Xx10+1))
   ) (do
   let Xx23←M.ite (Xx10 == (C11.size:Int)) (do
    M.pure true
    ) (do
    M.pure ((C13.len:Int) == C12)
    )
   M.ite Xx23 (do
    M.pure (C13,Xx10)
    ) (do
    let Xx26←slS C11 Xx10 C11.size
    let Xx27←UL Xx26
    let Xx28←mkB KP (#[.int .i64 0,.string ByteArray.empty,.int .i64 0,.int .i64 0]:Array Value)
    M.need (Xx27.1.size=4)
    stG Xx28 Xx27.1
    stV ((Xx28).add 3) (.int .i64 Xx10)
    let Xx34←M.ite (Xx27.2 == 0) (do
     M.pure true
     ) (do
     let Xx35←ldG 4 Xx28
     let Xx36←Jd Xx35
     M.pure (Xx36 != 0)
     )
    M.ite Xx34 (do
     M.pure (C13,Xx10)
     ) (do
     let Xx39←ldG 4 Xx28
     let y_41←N4 4 1 (#[.int .i64 0,.string ByteArray.empty,.int .i64 0,.int .i64 0]:Array Value) [(0,.agg Xx39)]
     let Xx40←bdL KP 1 y_41
     let Xx42←apL KP 4 40 (#[.int .i64 0,.string ByteArray.empty,.int .i64 0,.int .i64 0]:Array Value) C13 Xx40
     self1 (Xx42,IntKind.wrap .i64 (Xx10+Xx27.2))
     )
    )
   )
def VK (C6:ByteArray) (C7:Int) (self1:(Sl × Int)→M (Sl × Int)):(Sl × Int)→M (Sl × Int):=fun s=>match s with
 | (Xx4,Xx5)=>do
  M.loop (VJ self1 C6 C7 Xx4) Xx5
def UM (x0:ByteArray) (x1:Int):M (Sl × Int):=do
 M.loop (VK x0 x1) (Sl.nil,0)
theorem Nj (x0:ByteArray) (x1:Int):Kz Go.Proofs.Tryz.prog 47 #[.string x0,.int .i64 x1] (fun (r:Sl × Int)=>.tuple #[(r.1:Sl).v,.int .i64 r.2]) (UM x0 x1) :=
 KO [YC,Yx] [] [.L,.I .i64] [(0,.S x0),(1,.I .i64 x1)] (.q .o (.q .o (.q .o (.b (.l [(0,.S),(1,.I .i64)] [(6,.L),(7,.I .i64)] (fun (t:ByteArray × Int)=>VK t.1 t.2) (fun self1=>.b (.q (.b (.l [(0,.S),(1,.I .i64),(6,.L)] [(7,.I .i64)] (fun (t:ByteArray × Int × Sl)=>VJ self1 t.1 t.2.1 t.2.2) (fun _=>.o))) .o))))))) Go.Proofs.Tryz.func47 rfl rfl ⟨rfl,rfl,trivial⟩ rfl (by kernel_rfl) (by kernel_rfl)
noncomputable def Nk:CalleeS Go.Proofs.Tryz.prog:=mkC GU Gh [.S,.I .i64] [.L,.I .i64] (fun (t:ByteArray × Int)=>UM t.1 t.2) (fun (t:ByteArray × Int)=>Nj t.1 t.2)
def J5 (C10:Int):M (Sl × Int × Int):=do
 M.pure (Sl.nil,C10,150)
def Uw (x0:ByteArray):M (Sl × Int × Int):=do
 M.ite (decide ((x0.size:Int) > 16384)) (do
  M.pure (Sl.nil,0,3)
  ) (do
  let Xx6←UM x0 4096
  M.ite (Xx6.2 == (x0.size:Int)) (do
   M.pure (Xx6.1,Xx6.2,0)
   ) (do
   M.ite ((Xx6.1.len:Int) == 4096) (do
    let Xx14←slS x0 Xx6.2 x0.size
    let Xx15←UL Xx14
    let Xx16←mkB KP (#[.int .i64 0,.string ByteArray.empty,.int .i64 0,.int .i64 0]:Array Value)
    M.need (Xx15.1.size=4)
    stG Xx16 Xx15.1
    let Xx19←M.ite (decide (Xx15.2 > 0)) (do
     let Xx20←ldG 4 Xx16
     let Xx21←Jd Xx20
     M.pure (Xx21 == 0)
     ) (do
     M.pure false
     )
    M.ite Xx19 (do
     M.pure (Sl.nil,Xx6.2,3)
     ) (do
     J5 Xx6.2
     )
    ) (do
    J5 Xx6.2
    )
   )
  )
theorem zK (x0:ByteArray):Kz Go.Proofs.Tryz.prog 14 #[.string x0] (fun (r:Sl × Int × Int)=>.tuple #[(r.1:Sl).v,.int .i64 r.2.1,.int .i64 r.2.2]) (Uw x0) :=
 KO [YC,Nk,Yx] [] [.L,.I .i64,.I .i64] [(0,.S x0)] (.q .o (.q .o (.q .o (.q .o (.q .o (.j [(6,.I .i64)] (fun (t:Int)=>J5 t) .o)))))) Go.Proofs.Tryz.func14 rfl rfl ⟨rfl,trivial⟩ rfl (by kernel_rfl) (by kernel_rfl)
noncomputable def zL:CalleeS Go.Proofs.Tryz.prog:=mkC qE qR [.S] [.L,.I .i64,.I .i64] (fun (t:ByteArray)=>Uw t) (fun (t:ByteArray)=>zK t)
def UN :M (Bool):=do
 let Xx3←NU (⟨#[103,46,86,40,49,41]⟩:ByteArray)
 let Xx5←M.ite ((Xx3.1.len:Int) == 6) (do
  let Xx6←ixL Xx3.1 4 4
  let Xx7←ldG 4 Xx6
  let Xx8←eqS [.I .i64,.S,.I .i64,.I .i64] Xx7 (#[.int .i64 2,.string ByteArray.empty,.int .i64 1,.int .i64 4]:Array Value)
  M.pure Xx8
  ) (do
  M.pure false
  )
 let Xx9←M.ite Xx5 (do
  M.pure (Xx3.2.1 == 6)
  ) (do
  M.pure false
  )
 let Xx10←M.ite Xx9 (do
  M.pure (Xx3.2.2 == 0)
  ) (do
  M.pure false
  )
 M.pure Xx10
theorem Nl :Kz Go.Proofs.Tryz.prog 15 #[] (fun (r:Bool)=>.bool r) (UN ) :=
 KO [KDE] [] [.B] [] .o Go.Proofs.Tryz.func15 rfl rfl trivial rfl (by kernel_rfl) (by kernel_rfl)
noncomputable def Nm:CalleeS Go.Proofs.Tryz.prog:=mkC GM GZ [] [.B] (fun (t:Unit)=>UN) (fun (t:Unit)=>Nl)
def Zf (C8:Sl) (C9:Sl) (C10:Int) (self1:(Int)→M (Bool)):(Int)→M (Bool):=fun s=>match s with
 | Xx7=>do
  M.ite (decide (Xx7 < C10)) (do
   let Xx17←ixL C8 Xx7 4
   let Xx18←ixL C9 Xx7 4
   let Xx19←ldG 4 Xx17
   let Xx20←ldG 4 Xx18
   let Xx21←eqS [.I .i64,.S,.I .i64,.I .i64] Xx19 Xx20
   M.ite (!Xx21) (do
    M.pure false
    ) (do
    self1 (IntKind.wrap .i64 (Xx7+1))
    )
   ) (do
   M.pure true
   )
def K8 (x0:Sl) (x1:Sl):M (Bool):=do
 M.ite ((x0.len:Int) != (x1.len:Int)) (do
  M.pure false
  ) (do
  M.loop (Zf x0 x1 (x0.len:Int)) 0
  )
theorem VM (x0:Sl) (x1:Sl):Kz Go.Proofs.Tryz.prog 16 #[(x0:Sl).v,(x1:Sl).v] (fun (r:Bool)=>.bool r) (K8 x0 x1) :=
 KO [] [] [.B] [(0,.L x0),(1,.L x1)] (.q .o (.q .o (.q (.q .o (.b (.l [(0,.L),(1,.L),(12,.I .i64)] [(13,.I .i64)] (fun (t:Sl × Sl × Int)=>Zf t.1 t.2.1 t.2.2) (fun _=>.q .o (.q .o (.q (.b (.q .o (.q (.r [0,0,3,4,0,0,48,64,136] [0,0,3,4,0,0,48,64,136] [0,0,3,7,0,0,48,112,255] (.pu 0 (.pu 1 (.pu 2 (.pu 4 (.pu 5 (.pu 6 (.pu 3 (.pu 7 (.pu 8 (.st [8] .dn))))))))))) .o))) .o)))))) .o))) Go.Proofs.Tryz.func16 rfl rfl ⟨rfl,rfl,trivial⟩ rfl (by kernel_rfl) (by kernel_rfl)
noncomputable def VN:CalleeS Go.Proofs.Tryz.prog:=mkC VC VD [.L,.L] [.B] (fun (t:Sl × Sl)=>K8 t.1 t.2) (fun (t:Sl × Sl)=>VM t.1 t.2)
def Ux (x0:ByteArray):M (Bool):=do
 let Xx3←NU x0
 let Xx5←Uw x0
 let Xx7←UN
 let Xx8←M.ite Xx7 (do
  let Xx9←K8 Xx3.1 Xx5.1
  M.pure Xx9
  ) (do
  M.pure false
  )
 let Xx10←M.ite Xx8 (do
  M.pure (Xx3.2.1 == Xx5.2.1)
  ) (do
  M.pure false
  )
 let Xx11←M.ite Xx10 (do
  M.pure (Xx3.2.2 == Xx5.2.2)
  ) (do
  M.pure false
  )
 M.pure Xx11
theorem XH (x0:ByteArray):Kz Go.Proofs.Tryz.prog 3 #[.string x0] (fun (r:Bool)=>.bool r) (Ux x0) :=
 KO [KDE,zL,Nm,VN] [] [.B] [(0,.S x0)] .o Go.Proofs.Tryz.func3 rfl rfl ⟨rfl,trivial⟩ rfl (by kernel_rfl) (by kernel_rfl)
def Yy (x0:ByteArray):M (Bool):=do
 let Xx4←M.ite (sEq x0 ByteArray.empty) (do
  M.pure true
  ) (do
  M.pure (decide ((x0.size:Int) > 24))
  )
 let Xx5←M.ite Xx4 (do
  M.pure true
  ) (do
  let Xx6←ixS x0 0
  let Xx7←M.ite (decide (Xx6 ≥ 48)) (do
   let Xx8←ixS x0 0
   M.pure (decide (Xx8≤57))
   ) (do
   M.pure false
   )
  M.pure Xx7
  )
 M.ite Xx5 (do
  M.pure false
  ) (do
  let Xx11←Va x0 (⟨#[97,98,99,100,101,102,103,104,105,106,107,108,109,110,111,112,113,114,115,116,117,118,119,120,121,122,65,66,67,68,69,70,71,72,73,74,75,76,77,78,79,80,81,82,83,84,85,86,87,88,89,90,48,49,50,51,52,53,54,55,56,57,95]⟩:ByteArray)
  M.pure (sEq Xx11 ByteArray.empty)
  )
theorem KDF (x0:ByteArray):Kz Go.Proofs.Tryz.prog 53 #[.string x0] (fun (r:Bool)=>.bool r) (Yy x0) :=
 KO [mkC KAT KAW [.S,.S] [.S] (fun (t:ByteArray × ByteArray)=>Va t.1 t.2) (fun (t:ByteArray × ByteArray)=>KBH t.1 t.2)] [] [.B] [(0,.S x0)] .o Go.Proofs.Tryz.func53 rfl rfl ⟨rfl,trivial⟩ rfl (by kernel_rfl) (by kernel_rfl)
noncomputable def KDG:CalleeS Go.Proofs.Tryz.prog:=mkC KB3 KB8 [.S] [.B] (fun (t:ByteArray)=>Yy t) (fun (t:ByteArray)=>KDF t)
def Zp (x0:ByteArray) (x1:Int):M (Int):=do
 let Xx3←ZK x0 x1
 M.pure Xx3
theorem VY (x0:ByteArray) (x1:Int):Kz Go.Proofs.Tryz.prog 100 #[.string x0,.int .u8 x1] (fun (r:Int)=>.int .i64 r) (Zp x0 x1) :=
 KO [mkC Vi Vk [.S,.I .u8] [.I .i64] (fun (t:ByteArray × Int)=>ZK t.1 t.2) (fun (t:ByteArray × Int)=>Vz t.1 t.2)] [] [.I .i64] [(0,.S x0),(1,.I .u8 x1)] .o Go.Proofs.Tryz.func100 rfl rfl ⟨rfl,rfl,trivial⟩ rfl (by kernel_rfl) (by kernel_rfl)
noncomputable def Nn:CalleeS Go.Proofs.Tryz.prog:=mkC GW VE [.S,.I .u8] [.I .i64] (fun (t:ByteArray × Int)=>Zp t.1 t.2) (fun (t:ByteArray × Int)=>VY t.1 t.2)
def Wz (x0:Int):M (Bool):=do
 let Xx3←Zp (⟨#[46,40,41,44,91,93,123,125,58,61,59]⟩:ByteArray) x0
 M.pure (decide (Xx3 ≥ 0))
theorem KDH (x0:Int):Kz Go.Proofs.Tryz.prog 54 #[.int .u8 x0] (fun (r:Bool)=>.bool r) (Wz x0) :=
 KO [Nn] [] [.B] [(0,.I .u8 x0)] .o Go.Proofs.Tryz.func54 rfl rfl ⟨rfl,trivial⟩ rfl (by kernel_rfl) (by kernel_rfl)
noncomputable def zj:CalleeS Go.Proofs.Tryz.prog:=mkC KB1 KB6 [.I .u8] [.B] (fun (t:Int)=>Wz t) (fun (t:Int)=>KDH t)
def US (Xx12:Bool):M (Int):=do
 M.ite (!Xx12) (do
  M.pure 150
  ) (do
  M.pure 0
  )
def Xt (x0:Array Value):M (Int):=do
 let Xx2←mkB KP x0
 let Xx5←ldI .i64 ((Xx2).add 3)
 let Xx6←M.ite (decide (Xx5 < 0)) (do
  M.pure true
  ) (do
  let Xx7←ldI .i64 ((Xx2).add 2)
  let Xx8←M.ite (Xx7 != 0) (do
   let Xx9←ldI .i64 ((Xx2).add 0)
   M.pure (Xx9 != 2)
   ) (do
   M.pure false
   )
  M.pure Xx8
  )
 M.ite Xx6 (do
  M.pure 150
  ) (do
  let Xx18←ldI .i64 ((Xx2).add 0)
  M.ite (Xx18 == 1) (do
   let Xx20←ldS ((Xx2).add 1)
   let Xx21←Yy Xx20
   US Xx21
   ) (do
   M.ite (Xx18 == 2) (do
    let Xx23←ldS ((Xx2).add 1)
    US (sEq Xx23 ByteArray.empty)
    ) (do
    M.ite (Xx18 == 3) (do
     let Xx25←ldS ((Xx2).add 1)
     US (decide ((Xx25.size:Int)≤128))
     ) (do
     M.ite (Xx18 == 4) (do
      let Xx27←ldS ((Xx2).add 1)
      let Xx28←M.ite ((Xx27.size:Int) == 1) (do
       let Xx29←ldS ((Xx2).add 1)
       let Xx30←ixS Xx29 0
       let Xx31←Wz Xx30
       M.pure Xx31
       ) (do
       M.pure false
       )
      US Xx28
      ) (do
      US false
      )
     )
    )
   )
  )
theorem KEA (x0:Array Value):Kz Go.Proofs.Tryz.prog 22 #[.agg x0] (fun (r:Int)=>.int .i64 r) (Xt x0) :=
 KO [KDG,zj] [] [.I .i64] [(0,.G x0)] (.q .o (.q .o (.q .o (.q .o (.j [(3,.B)] (fun (t:Bool)=>US t) .o))))) Go.Proofs.Tryz.func22 rfl rfl ⟨rfl,trivial⟩ rfl (by kernel_rfl) (by kernel_rfl)
end Gx
namespace Gx
open Go
set_option linter.unusedVariables false
set_option maxRecDepth 100000
def KAX (x0:Int):M (Array Value):=do
 let Xx2←mkB KE (#[.int .i64 0,.int .i64 0,.string ByteArray.empty,.slice none 0 0]:Array Value)
 M.need ((#[.int .i64 1,.int .i64 x0,.string ByteArray.empty,.slice none 0 0]:Array Value).size=4)
 stG Xx2 (#[.int .i64 1,.int .i64 x0,.string ByteArray.empty,.slice none 0 0]:Array Value)
 let Rr5←ldG 4 Xx2
 M.pure Rr5
theorem KEB (x0:Int):Kz Go.Proofs.Tryz.prog 51 #[.int .i64 x0] (fun (r:Array Value)=>.agg r) (KAX x0) :=
 KO [] [] [.G] [(0,.I .i64 x0)] .o Go.Proofs.Tryz.func51 rfl rfl ⟨rfl,trivial⟩ rfl (by kernel_rfl) (by kernel_rfl)
def KAY (x0:ByteArray):M (Array Value):=do
 let Xx2←mkB KE (#[.int .i64 0,.int .i64 0,.string ByteArray.empty,.slice none 0 0]:Array Value)
 M.need ((#[.int .i64 2,.int .i64 0,.string x0,.slice none 0 0]:Array Value).size=4)
 stG Xx2 (#[.int .i64 2,.int .i64 0,.string x0,.slice none 0 0]:Array Value)
 let Rr5←ldG 4 Xx2
 M.pure Rr5
theorem KEC (x0:ByteArray):Kz Go.Proofs.Tryz.prog 52 #[.string x0] (fun (r:Array Value)=>.agg r) (KAY x0) :=
 KO [] [] [.G] [(0,.S x0)] .o Go.Proofs.Tryz.func52 rfl rfl ⟨rfl,trivial⟩ rfl (by kernel_rfl) (by kernel_rfl)
def XI (C6:Int) (C7:Sl) (C8:Int) (self1:(Int)→M (Int)):(Int)→M (Int):=fun s=>match s with
 | Xx5=>do
  M.ite (decide (Xx5 < C8)) (do
   let Xx14←ixL C7 Xx5 1
   let Xx15←ldI .i64 Xx14
   M.ite (Xx15 != C6) (do
    M.pure Xx15
    ) (do
    self1 (IntKind.wrap .i64 (Xx5+1))
    )
   ) (do
   M.pure C6
   )
def Yz (x0:Sl):M (Int):=do
 M.loop (XI 0 x0 (x0.len:Int)) 0
theorem KDI (x0:Sl):Kz Go.Proofs.Tryz.prog 171 #[(x0:Sl).v] (fun (r:Int)=>.int .i64 r) (Yz x0) :=
 KO [] [] [.I .i64] [(0,.L x0)] (.q .o (.q .o (.q (.q .o (.b (.l [(3,.I .i64),(6,.L),(7,.I .i64)] [(8,.I .i64)] (fun (t:Int × Sl × Int)=>XI t.1 t.2.1 t.2.2) (fun _=>.o)))) .o))) Go.Proofs.Tryz.func171 rfl rfl ⟨rfl,trivial⟩ rfl (by kernel_rfl) (by kernel_rfl)
noncomputable def KDJ:CalleeS Go.Proofs.Tryz.prog:=mkC KBz KB4 [.L] [.I .i64] (fun (t:Sl)=>Yz t) (fun (t:Sl)=>KDI t)
def Vp (x0:Int):M (Bool):=do
 M.pure (x0 != x0)
theorem KAZ (x0:Int):Kz Go.Proofs.Tryz.prog 209 #[.int .i64 x0] (fun (r:Bool)=>.bool r) (Vp x0) :=
 KO [] [] [.B] [(0,.I .i64 x0)] .o Go.Proofs.Tryz.func209 rfl rfl ⟨rfl,trivial⟩ rfl (by kernel_rfl) (by kernel_rfl)
noncomputable def KAa:CalleeS Go.Proofs.Tryz.prog:=mkC zo zp [.I .i64] [.B] (fun (t:Int)=>Vp t) (fun (t:Int)=>KAZ t)
def Uy (x0:Int) (x1:Int):M (Int):=do
 let Xx3←Vp x0
 let Xx5←Vp x1
 M.ite Xx3 (do
  M.ite Xx5 (do
   M.pure 0
   ) (do
   M.pure (-1)
   )
  ) (do
  M.ite Xx5 (do
   M.pure 1
   ) (do
   M.ite (decide (x0 < x1)) (do
    M.pure (-1)
    ) (do
    M.ite (decide (x0 > x1)) (do
     M.pure 1
     ) (do
     M.pure 0
     )
    )
   )
  )
theorem zM (x0:Int) (x1:Int):Kz Go.Proofs.Tryz.prog 172 #[.int .i64 x0,.int .i64 x1] (fun (r:Int)=>.int .i64 r) (Uy x0 x1) :=
 KO [KAa] [] [.I .i64] [(0,.I .i64 x0),(1,.I .i64 x1)] .o Go.Proofs.Tryz.func172 rfl rfl ⟨rfl,rfl,trivial⟩ rfl (by kernel_rfl) (by kernel_rfl)
noncomputable def zN:CalleeS Go.Proofs.Tryz.prog:=mkC N8 qJ [.I .i64,.I .i64] [.I .i64] (fun (t:Int × Int)=>Uy t.1 t.2) (fun (t:Int × Int)=>zM t.1 t.2)
def Uz (x0:Int):M (Bool):=do
 M.pure (x0 != x0)
theorem zO (x0:Int):Kz Go.Proofs.Tryz.prog 210 #[.int .i64 x0] (fun (r:Bool)=>.bool r) (Uz x0) :=
 KO [] [] [.B] [(0,.I .i64 x0)] .o Go.Proofs.Tryz.func210 rfl rfl ⟨rfl,trivial⟩ rfl (by kernel_rfl) (by kernel_rfl)
noncomputable def zP:CalleeS Go.Proofs.Tryz.prog:=mkC N9 qK [.I .i64] [.B] (fun (t:Int)=>Uz t) (fun (t:Int)=>zO t)
def UO (x0:Int) (x1:Int):M (Int):=do
 let Xx3←Uz x0
 let Xx5←Uz x1
 M.ite Xx3 (do
  M.ite Xx5 (do
   M.pure 0
   ) (do
   M.pure (-1)
   )
  ) (do
  M.ite Xx5 (do
   M.pure 1
   ) (do
   M.ite (decide (x0 < x1)) (do
    M.pure (-1)
    ) (do
    M.ite (decide (x0 > x1)) (do
     M.pure 1
     ) (do
     M.pure 0
     )
    )
   )
  )
theorem No (x0:Int) (x1:Int):Kz Go.Proofs.Tryz.prog 173 #[.int .i64 x0,.int .i64 x1] (fun (r:Int)=>.int .i64 r) (UO x0 x1) :=
 KO [zP] [] [.I .i64] [(0,.I .i64 x0),(1,.I .i64 x1)] .o Go.Proofs.Tryz.func173 rfl rfl ⟨rfl,rfl,trivial⟩ rfl (by kernel_rfl) (by kernel_rfl)
noncomputable def Np:CalleeS Go.Proofs.Tryz.prog:=mkC GL GX [.I .i64,.I .i64] [.I .i64] (fun (t:Int × Int)=>UO t.1 t.2) (fun (t:Int × Int)=>No t.1 t.2)
def Vq (x0:ByteArray) (x1:ByteArray):M (Int):=do
 let Xx3←Zh x0 x1
 M.pure Xx3
theorem zQ (x0:ByteArray) (x1:ByteArray):Kz Go.Proofs.Tryz.prog 174 #[.string x0,.string x1] (fun (r:Int)=>.int .i64 r) (Vq x0 x1) :=
 KO [mkC Vh Vj [.S,.S] [.I .i64] (fun (t:ByteArray × ByteArray)=>Zh t.1 t.2) (fun (t:ByteArray × ByteArray)=>Vy t.1 t.2)] [] [.I .i64] [(0,.S x0),(1,.S x1)] .o Go.Proofs.Tryz.func174 rfl rfl ⟨rfl,rfl,trivial⟩ rfl (by kernel_rfl) (by kernel_rfl)
noncomputable def zR:CalleeS Go.Proofs.Tryz.prog:=mkC qH qU [.S,.S] [.I .i64] (fun (t:ByteArray × ByteArray)=>Vq t.1 t.2) (fun (t:ByteArray × ByteArray)=>zQ t.1 t.2)
def Ka (C5:Sl) (C6:Sl) (C7:Value) (C8:Sl) (C9:Int) (self1:(Int)→M (Int)):(Int)→M (Int):=fun s=>match s with
 | Xx4=>do
  M.ite (decide (Xx4 < C9)) (do
   let Xx15←ixL C8 Xx4 4
   let Xx16←ldG 4 Xx15
   let Xx17←mkB KE (#[.int .i64 0,.int .i64 0,.string ByteArray.empty,.slice none 0 0]:Array Value)
   M.need (Xx16.size=4)
   stG Xx17 Xx16
   M.ite (decide (Xx4 ≥ (C6.len:Int))) (do
    M.pure 1
    ) (do
    let Xx23←ixL C6 Xx4 4
    let Xx24←ldG 4 Xx23
    let Xx25←mkB KE (#[.int .i64 0,.int .i64 0,.string ByteArray.empty,.slice none 0 0]:Array Value)
    M.need (Xx24.size=4)
    stG Xx25 Xx24
    let Xx28←ldG 4 Xx17
    let Xx29←ldG 4 Xx25
    let Xx30←YP Go.Proofs.Tryz.prog (fun r:Int=>.int .i64 r) C7 [.agg Xx28,.agg Xx29]
    M.ite (Xx30 != 0) (do
     M.pure Xx30
     ) (do
     self1 (IntKind.wrap .i64 (Xx4+1))
     )
    )
   ) (do
   M.ite (decide ((C5.len:Int) < (C6.len:Int))) (do
    M.pure (-1)
    ) (do
    M.pure 0
    )
   )
def KU (x0:Sl) (x1:Sl) (x2:Value):M (Int):=do
 M.loop (Ka x0 x1 x2 x0 (x0.len:Int)) 0
theorem Zt (x0:Sl) (x1:Sl) (x2:Value):Kz Go.Proofs.Tryz.prog 175 #[(x0:Sl).v,(x1:Sl).v,x2] (fun (r:Int)=>.int .i64 r) (KU x0 x1 x2) :=
 KO [] [] [.I .i64] [(0,.L x0),(1,.L x1),(2,.V x2)] (.q .o (.q (.q .o (.b (.l [(0,.L),(1,.L),(2,.V),(11,.L),(12,.I .i64)] [(13,.I .i64)] (fun (t:Sl × Sl × Value × Sl × Int)=>Ka t.1 t.2.1 t.2.2.1 t.2.2.2.1 t.2.2.2.2) (fun _=>.o)))) .o)) Go.Proofs.Tryz.func175 rfl rfl ⟨rfl,rfl,rfl,trivial⟩ rfl (by kernel_rfl) (by kernel_rfl)
noncomputable def Zu:CalleeS Go.Proofs.Tryz.prog:=mkC Zr Zs [.L,.L,.V] [.I .i64] (fun (t:Sl × Sl × Value)=>KU t.1 t.2.1 t.2.2) (fun (t:Sl × Sl × Value)=>Zt t.1 t.2.1 t.2.2)
def U2 (x0:Array Value) (x1:Array Value):M (Int):=do
 let Xx2←mkB KE x0
 let Xx3←mkB KE x1
 let Xx5←ldI .i64 ((Xx2).add 0)
 let Xx6←ldI .i64 ((Xx3).add 0)
 let Xx7←ldI .i64 ((Xx2).add 1)
 let Xx8←ldI .i64 ((Xx3).add 1)
 let Xx9←ldS ((Xx2).add 2)
 let Xx10←ldS ((Xx3).add 2)
 let Xx11←ldL ((Xx2).add 3)
 let Xx12←ldL ((Xx3).add 3)
 let Xx13←Uy Xx5 Xx6
 chk (fun h:Heap=>(KV h ((Xx2).add 0)=some (.int .i64 Xx5))∧(KV h ((Xx3).add 0)=some (.int .i64 Xx6))∧(KV h ((Xx2).add 1)=some (.int .i64 Xx7))∧(KV h ((Xx3).add 1)=some (.int .i64 Xx8))∧(KV h ((Xx2).add 2)=some (.string Xx9))∧(KV h ((Xx3).add 2)=some (.string Xx10))∧(KV h ((Xx2).add 3)=some ((Xx11:Sl).v))∧(KV h ((Xx3).add 3)=some ((Xx12:Sl).v)))
 let Xx14←UO Xx7 Xx8
 chk (fun h:Heap=>(KV h ((Xx2).add 0)=some (.int .i64 Xx5))∧(KV h ((Xx3).add 0)=some (.int .i64 Xx6))∧(KV h ((Xx2).add 1)=some (.int .i64 Xx7))∧(KV h ((Xx3).add 1)=some (.int .i64 Xx8))∧(KV h ((Xx2).add 2)=some (.string Xx9))∧(KV h ((Xx3).add 2)=some (.string Xx10))∧(KV h ((Xx2).add 3)=some ((Xx11:Sl).v))∧(KV h ((Xx3).add 3)=some ((Xx12:Sl).v)))
 let Xx15←Vq Xx9 Xx10
 chk (fun h:Heap=>(KV h ((Xx2).add 0)=some (.int .i64 Xx5))∧(KV h ((Xx3).add 0)=some (.int .i64 Xx6))∧(KV h ((Xx2).add 1)=some (.int .i64 Xx7))∧(KV h ((Xx3).add 1)=some (.int .i64 Xx8))∧(KV h ((Xx2).add 2)=some (.string Xx9))∧(KV h ((Xx3).add 2)=some (.string Xx10))∧(KV h ((Xx2).add 3)=some ((Xx11:Sl).v))∧(KV h ((Xx3).add 3)=some ((Xx12:Sl).v)))
 let Xx16←KU Xx11 Xx12 (Value.func (.func XQ) #[] #[])
 let Xx17←bdL XR 4 #[.int .i64 Xx13,.int .i64 Xx14,.int .i64 Xx15,.int .i64 Xx16]
 let Xx18←Yz Xx17
 M.pure Xx18
theorem Xv (x0:Array Value) (x1:Array Value):Kz Go.Proofs.Tryz.prog 124 #[.agg x0,.agg x1] (fun (r:Int)=>.int .i64 r) (U2 x0 x1) :=
 KO [KDJ,zN,Np,zR,Zu] [] [.I .i64] [(0,.G x0),(1,.G x1)] (.q .o (.q (.r [0,1,0,4,10,0,32,0,128,336,0,1024,0,4096,10752,0,32768,0,131072,344064,541200,1572864,4194303] [0,1,0,4,10,0,32,0,128,320,0,1024,0,4096,10240,0,32768,0,131072,327680,541200,1048576,2097152] [0,1,0,4,15,0,32,0,128,511,0,1024,0,4096,16383,0,32768,0,131072,524287,1048575,2097151,4194303] (.pu 0 (.pu 2 (.pu 5 (.pu 7 (.pu 10 (.pu 12 (.pu 15 (.pu 17 (.pu 1 (.pu 3 (.pu 6 (.pu 8 (.pu 11 (.pu 13 (.pu 16 (.pu 18 (.st [19,20,21,22] (.on 4 (.on 9 (.on 14 (.on 19 (.on 20 (.on 21 (.pu 22 (.nx .dn)))))))))))))))))))))))))) .o)) Go.Proofs.Tryz.func124 rfl rfl ⟨rfl,rfl,trivial⟩ rfl (by kernel_rfl) (by kernel_rfl)
noncomputable def KAb:CalleeS Go.Proofs.Tryz.prog:=mkC XQ XS [.G,.G] [.I .i64] (fun (t:Array Value × Array Value)=>U2 t.1 t.2) (fun (t:Array Value × Array Value)=>Xv t.1 t.2)
def Vb (x0:Int):M (Bool):=do
 let Xx3←M.ite (decide (x0 ≥ 97)) (do
  M.pure (decide (x0≤122))
  ) (do
  M.pure false
  )
 let Xx4←M.ite Xx3 (do
  M.pure true
  ) (do
  let Xx5←M.ite (decide (x0 ≥ 65)) (do
   M.pure (decide (x0≤90))
   ) (do
   M.pure false
   )
  M.pure Xx5
  )
 let Xx6←M.ite Xx4 (do
  M.pure true
  ) (do
  M.pure (x0 == 95)
  )
 M.pure Xx6
theorem KBI (x0:Int):Kz Go.Proofs.Tryz.prog 177 #[.int .u8 x0] (fun (r:Bool)=>.bool r) (Vb x0) :=
 KO [] [] [.B] [(0,.I .u8 x0)] .o Go.Proofs.Tryz.func177 rfl rfl ⟨rfl,trivial⟩ rfl (by kernel_rfl) (by kernel_rfl)
noncomputable def G9:CalleeS Go.Proofs.Tryz.prog:=mkC KAS KAV [.I .u8] [.B] (fun (t:Int)=>Vb t) (fun (t:Int)=>KBI t)
def Y0 (x0:Int):M (Bool):=do
 let Xx3←Vb x0
 let Xx4←M.ite Xx3 (do
  M.pure true
  ) (do
  let Xx5←M.ite (decide (x0 ≥ 48)) (do
   M.pure (decide (x0≤57))
   ) (do
   M.pure false
   )
  M.pure Xx5
  )
 M.pure Xx4
theorem KDK (x0:Int):Kz Go.Proofs.Tryz.prog 212 #[.int .u8 x0] (fun (r:Bool)=>.bool r) (Y0 x0) :=
 KO [G9] [] [.B] [(0,.I .u8 x0)] .o Go.Proofs.Tryz.func212 rfl rfl ⟨rfl,trivial⟩ rfl (by kernel_rfl) (by kernel_rfl)
noncomputable def KDL:CalleeS Go.Proofs.Tryz.prog:=mkC KB2 KB7 [.I .u8] [.B] (fun (t:Int)=>Y0 t) (fun (t:Int)=>KDK t)
def Xw (C5:ByteArray) (C6:Int) (self1:(Int)→M (Int)):(Int)→M (Int):=fun s=>match s with
 | Xx4=>do
  let Xx10←M.ite (decide (Xx4 < (C5.size:Int))) (do
   let Xx11←ixS C5 Xx4
   let Xx12←Y0 Xx11
   M.pure Xx12
   ) (do
   M.pure false
   )
  M.ite Xx10 (do
   self1 (IntKind.wrap .i64 (Xx4+1))
   ) (do
   M.pure (IntKind.wrap .i64 (Xx4 - C6))
   )
def YF (x0:ByteArray) (x1:Int):M (Int):=do
 M.loop (Xw x0 x1) x1
theorem KED (x0:ByteArray) (x1:Int):Kz Go.Proofs.Tryz.prog 178 #[.string x0,.int .i64 x1] (fun (r:Int)=>.int .i64 r) (YF x0 x1) :=
 KO [KDL] [] [.I .i64] [(0,.S x0),(1,.I .i64 x1)] (.q .o (.q .o (.q (.b (.l [(0,.S),(1,.I .i64)] [(5,.I .i64)] (fun (t:ByteArray × Int)=>Xw t.1 t.2) (fun _=>.o))) .o))) Go.Proofs.Tryz.func178 rfl rfl ⟨rfl,rfl,trivial⟩ rfl (by kernel_rfl) (by kernel_rfl)
noncomputable def KEE:CalleeS Go.Proofs.Tryz.prog:=mkC KC3 KC7 [.S,.I .i64] [.I .i64] (fun (t:ByteArray × Int)=>YF t.1 t.2) (fun (t:ByteArray × Int)=>KED t.1 t.2)
def Wv (self1:(Int)→M (Int)) (Xx9:Int):M (Int):=do
 self1 (IntKind.wrap .i64 (Xx9+1))
def XJ (C5:ByteArray) (self1:(Int)→M (Int)):(Int)→M (Int):=fun s=>match s with
 | Xx4=>do
  M.ite (decide (Xx4 < (C5.size:Int))) (do
   let Xx12←ixS C5 Xx4
   M.ite (Xx12 == 92) (do
    Wv self1 (IntKind.wrap .i64 (Xx4+1))
    ) (do
    M.ite (Xx12 == 39) (do
     M.pure (IntKind.wrap .i64 (Xx4+1))
     ) (do
     Wv self1 Xx4
     )
    )
   ) (do
   M.pure 0
   )
def Y1 (x0:ByteArray):M (Int):=do
 M.loop (XJ x0) 1
theorem KDM (x0:ByteArray):Kz Go.Proofs.Tryz.prog 179 #[.string x0] (fun (r:Int)=>.int .i64 r) (Y1 x0) :=
 KO [] [] [.I .i64] [(0,.S x0)] (.q .o (.q (.q .o (.b (.l [(0,.S)] [(3,.I .i64)] (fun (t:ByteArray)=>XJ t) (fun self1=>.q .o (.q .o (.j [(0,.S),(3,.I .i64)] (fun (t:ByteArray × Int)=>Wv self1 t.2) .o)))))) .o)) Go.Proofs.Tryz.func179 rfl rfl ⟨rfl,trivial⟩ rfl (by kernel_rfl) (by kernel_rfl)
noncomputable def KDN:CalleeS Go.Proofs.Tryz.prog:=mkC KB0 KB5 [.S] [.I .i64] (fun (t:ByteArray)=>Y1 t) (fun (t:ByteArray)=>KDM t)
def ZU (C5:Sl) (C6:Value) (C7:Int) (self1:(Int)→M (Int)):(Int)→M (Int):=fun s=>match s with
 | Xx4=>do
  M.ite (decide (Xx4 < C7)) (do
   let Xx14←ixL C5 Xx4 4
   let Xx15←ldG 4 Xx14
   let Xx16←YP Go.Proofs.Tryz.prog (fun r:Bool=>.bool r) C6 [.agg Xx15]
   M.ite Xx16 (do
    M.pure Xx4
    ) (do
    self1 (IntKind.wrap .i64 (Xx4+1))
    )
   ) (do
   M.pure (-1)
   )
def ZF (x0:Sl) (x1:Value):M (Int):=do
 M.loop (ZU x0 x1 (x0.len:Int)) 0
theorem Ul (x0:Sl) (x1:Value):Kz Go.Proofs.Tryz.prog 205 #[(x0:Sl).v,x1] (fun (r:Int)=>.int .i64 r) (ZF x0 x1) :=
 KO [] [] [.I .i64] [(0,.L x0),(1,.V x1)] (.q .o (.q (.q .o (.b (.l [(0,.L),(1,.V),(7,.I .i64)] [(8,.I .i64)] (fun (t:Sl × Value × Int)=>ZU t.1 t.2.1 t.2.2) (fun _=>.o)))) .o)) Go.Proofs.Tryz.func205 rfl rfl ⟨rfl,rfl,trivial⟩ rfl (by kernel_rfl) (by kernel_rfl)
noncomputable def Um:CalleeS Go.Proofs.Tryz.prog:=mkC Ug Uh [.L,.V] [.I .i64] (fun (t:Sl × Value)=>ZF t.1 t.2) (fun (t:Sl × Value)=>Ul t.1 t.2)
def Kg (x0:Sl) (x1:Value):M (Bool):=do
 let Xx3←ZF x0 x1
 M.pure (decide (Xx3 ≥ 0))
theorem UU (x0:Sl) (x1:Value):Kz Go.Proofs.Tryz.prog 165 #[(x0:Sl).v,x1] (fun (r:Bool)=>.bool r) (Kg x0 x1) :=
 KO [Um] [] [.B] [(0,.L x0),(1,.V x1)] .o Go.Proofs.Tryz.func165 rfl rfl ⟨rfl,rfl,trivial⟩ rfl (by kernel_rfl) (by kernel_rfl)
noncomputable def UV:CalleeS Go.Proofs.Tryz.prog:=mkC UQ UR [.L,.V] [.B] (fun (t:Sl × Value)=>Kg t.1 t.2) (fun (t:Sl × Value)=>UU t.1 t.2)
def WN (C12:Addr) (C13:Addr):M (Bool):=do
 let Xx15←ldI .i64 ((C12).add 1)
 let Xx16←M.ite (Xx15 == 0) (do
  let Xx17←ldS ((C12).add 2)
  M.pure (sEq Xx17 ByteArray.empty)
  ) (do
  M.pure false
  )
 let Xx18←M.ite Xx16 (do
  let Xx19←ldL ((C12).add 3)
  let Xx20←Kg Xx19 (Value.func (.func KBB) #[] #[.pointer (some C13)])
  M.pure (!Xx20)
  ) (do
  M.pure false
  )
 M.pure Xx18
def Xx (C61:Addr) (C62:Addr) (self1:(Int)→M (Bool)):(Int)→M (Bool):=fun s=>match s with
 | Xx60=>do
  let Xx66←ldL ((C61).add 3)
  M.ite (decide (Xx60 < (Xx66.len:Int))) (do
   let Xx69←ldL ((C61).add 3)
   let Xx70←ixL Xx69 (IntKind.wrap .i64 (Xx60 - 2)) 4
   let Xx71←ldG 4 Xx70
   let Xx72←ldL ((C61).add 3)
   let Xx73←ixL Xx72 Xx60 4
   let Xx74←ldG 4 Xx73
   let Xx75←U2 Xx71 Xx74
   M.ite (decide (Xx75 ≥ 0)) (do
    M.pure false
    ) (do
    self1 (IntKind.wrap .i64 (Xx60+2))
    )
   ) (do
   WN C61 C62
   )
def WO (C32:Addr) (C33:Addr) (C34:Bool) (C35:Int) (Xx31:Bool):M (Bool):=do
 M.ite Xx31 (do
  let Xx37←M.ite C34 (do
   let Xx38←ldI .i64 ((C32).add 1)
   M.pure (decide (Xx38 ≥ 1))
   ) (do
   M.pure false
   )
  let Xx39←M.ite Xx37 (do
   let Xx40←ldI .i64 ((C32).add 1)
   M.pure (decide (Xx40≤281474976710656))
   ) (do
   M.pure false
   )
  M.pure Xx39
  ) (do
  M.ite (C35 == 2) (do
   let Xx43←ldI .i64 ((C32).add 1)
   let Xx44←M.ite (Xx43 == 0) (do
    let Xx45←ldL ((C32).add 3)
    M.pure ((Xx45.len:Int) == 0)
    ) (do
    M.pure false
    )
   let Xx46←M.ite Xx44 (do
    let Xx47←ldS ((C32).add 2)
    M.pure (decide ((Xx47.size:Int)≤128))
    ) (do
    M.pure false
    )
   M.pure Xx46
   ) (do
   M.ite (C35 == 4) (do
    let Xx50←ldL ((C32).add 3)
    M.ite (decide ((Xx50.len:Int) > 256)) (do
     M.pure false
     ) (do
     WN C32 C33
     )
    ) (do
    M.ite (C35 == 5) (do
     let Xx55←ldL ((C32).add 3)
     let Xx56←M.ite (decide ((Xx55.len:Int) > 512)) (do
      M.pure true
      ) (do
      let Xx57←ldL ((C32).add 3)
      M.pure ((Int.tmod (Xx57.len:Int) 2) == 1)
      )
     M.ite Xx56 (do
      M.pure false
      ) (do
      M.loop (Xx C32 C33) 2
      )
     ) (do
     M.pure false
     )
    )
   )
  )
def YG (x0:Array Value) (x1:Int):M (Bool):=do
 let Xx2←mkB KE x0
 let Xx3←mkB XR #[.int .i64 x1]
 let Xx6←ldI .i64 Xx3
 M.ite (decide (Xx6 > 8)) (do
  M.pure false
  ) (do
  let Xx9←ldS ((Xx2).add 2)
  let Xx10←M.ite (sEq Xx9 ByteArray.empty) (do
   let Xx11←ldL ((Xx2).add 3)
   M.pure ((Xx11.len:Int) == 0)
   ) (do
   M.pure false
   )
  let Xx22←ldI .i64 ((Xx2).add 0)
  M.ite (Xx22 == 1) (do
   M.pure Xx10
   ) (do
   M.ite (Xx22 == 3) (do
    let Xx27←M.ite Xx10 (do
     let Xx28←ldI .i64 ((Xx2).add 1)
     let Xx29←M.ite (Xx28 == 0) (do
      M.pure true
      ) (do
      let Xx30←ldI .i64 ((Xx2).add 1)
      M.pure (Xx30 == 1)
      )
     M.pure Xx29
     ) (do
     M.pure false
     )
    M.pure Xx27
    ) (do
    M.ite (Xx22 == 6) (do
     WO Xx2 Xx3 Xx10 Xx22 (Xx22 == 6)
     ) (do
     WO Xx2 Xx3 Xx10 Xx22 (Xx22 == 7)
     )
    )
   )
  )
theorem KEF (x0:Array Value) (x1:Int):Kz Go.Proofs.Tryz.prog 201 #[.agg x0,.int .i64 x1] (fun (r:Bool)=>.bool r) (YG x0 x1) :=
 KO [KAb,UV] [] [.B] [(0,.G x0),(1,.I .i64 x1)] (.q .o (.q .o (.q .o (.q (.q .o (.b (.q .o (.q .o (.q .o (.q .o (.q .o (.j [(2,.A),(3,.A),(5,.B),(19,.I .i64),(36,.B)] (fun (t:Addr × Addr × Bool × Int × Bool)=>WO t.1 t.2.1 t.2.2.1 t.2.2.2.1 t.2.2.2.2) (.q .o (.q .o (.q .o (.q .o (.q .o (.q .o (.q (.q .o (.q .o (.b (.l [(2,.A),(3,.A)] [(6,.I .i64)] (fun (t:Addr × Addr)=>Xx t.1 t.2) (fun _=>.q .o (.q (.b (.q (.r [0,1,0,4,10,16,0,64,0,384,512,1056,2048] [0,1,0,4,10,16,0,64,0,384,512,1056,2048] [0,1,0,4,15,31,0,64,0,448,960,2047,4095] (.pu 0 (.pu 2 (.pu 3 (.pu 6 (.pu 8 (.pu 1 (.pu 4 (.pu 5 (.pu 7 (.pu 9 (.pu 10 (.st [11,12] (.on 11 (.pu 12 (.nx .dn)))))))))))))))) .o)) .o)))))) .o))))))))))))))) (.j [(2,.A),(3,.A)] (fun (t:Addr × Addr)=>WN t.1 t.2) .o))))) Go.Proofs.Tryz.func201 rfl rfl ⟨rfl,rfl,trivial⟩ rfl (by kernel_rfl) (by kernel_rfl)
noncomputable def KAc:CalleeS Go.Proofs.Tryz.prog:=mkC KC5 KDB [.G,.I .i64] [.B] (fun (t:Array Value × Int)=>YG t.1 t.2) (fun (t:Array Value × Int)=>KEF t.1 t.2)
def YH (x0:Array Value):M (Int):=do
 let Xx2←mkB KE x0
 let Xx5←ldG 4 Xx2
 let Xx6←YG Xx5 1
 M.ite (!Xx6) (do
  M.pure 20
  ) (do
  M.pure 0
  )
theorem KCD (x0:Array Value):Kz Go.Proofs.Tryz.prog 153 #[.agg x0] (fun (r:Int)=>.int .i64 r) (YH x0) :=
 KO [KAc] [] [.I .i64] [(0,.G x0)] .o Go.Proofs.Tryz.func153 rfl rfl ⟨rfl,trivial⟩ rfl (by kernel_rfl) (by kernel_rfl)
noncomputable def KCE:CalleeS Go.Proofs.Tryz.prog:=mkC KA9 KBD [.G] [.I .i64] (fun (t:Array Value)=>YH t) (fun (t:Array Value)=>KCD t)
def WF (x0:ByteArray):M (Array Value × Int × Int):=do
 let Xx2←mkB KE (#[.int .i64 0,.int .i64 0,.string ByteArray.empty,.slice none 0 0]:Array Value)
 let Xx4←Y8 Go.Proofs.Tryz.prog Wq #[.string x0] (fun r:Array Value × Int × Bool=>.tuple #[.agg r.1,.int .i64 r.2.1,.bool r.2.2])
 let Xx5←mkB KE (#[.int .i64 0,.int .i64 0,.string ByteArray.empty,.slice none 0 0]:Array Value)
 M.need (Xx4.1.size=4)
 stG Xx5 Xx4.1
 M.ite (!Xx4.2.2) (do
  M.need ((#[.int .i64 0,.int .i64 0,.string ByteArray.empty,.slice none 0 0]:Array Value).size=4)
  stG Xx2 (#[.int .i64 0,.int .i64 0,.string ByteArray.empty,.slice none 0 0]:Array Value)
  let Rr11←ldG 4 Xx2
  M.pure (Rr11,Xx4.2.1,22)
  ) (do
  let Xx13←ldG 4 Xx5
  let Xx14←YH Xx13
  M.ite (Xx14 != 0) (do
   M.need ((#[.int .i64 0,.int .i64 0,.string ByteArray.empty,.slice none 0 0]:Array Value).size=4)
   stG Xx2 (#[.int .i64 0,.int .i64 0,.string ByteArray.empty,.slice none 0 0]:Array Value)
   let Rr17←ldG 4 Xx2
   M.pure (Rr17,0,20)
   ) (do
   let Xx19←ldG 4 Xx5
   M.need (Xx19.size=4)
   stG Xx2 Xx19
   let Rr21←ldG 4 Xx2
   M.pure (Rr21,0,0)
   )
  )
theorem KCF (x0:ByteArray):Kz Go.Proofs.Tryz.prog 180 #[.string x0] (fun (r:Array Value × Int × Int)=>.tuple #[.agg r.1,.int .i64 r.2.1,.int .i64 r.2.2]) (WF x0) :=
 KO [KCE,mkC Wq KB9 [.S] [.G,.I .i64,.B] (fun (t:ByteArray)=>Y8 Go.Proofs.Tryz.prog Wq #[.string t] (fun r:Array Value × Int × Bool=>.tuple #[.agg r.1,.int .i64 r.2.1,.bool r.2.2])) (fun (t:ByteArray)=>VR)] [] [.G,.I .i64,.I .i64] [(0,.S x0)] .o Go.Proofs.Tryz.func180 rfl rfl ⟨rfl,trivial⟩ rfl (by kernel_rfl) (by kernel_rfl)
noncomputable def KCG:CalleeS Go.Proofs.Tryz.prog:=mkC KBA KBE [.S] [.G,.I .i64,.I .i64] (fun (t:ByteArray)=>WF t) (fun (t:ByteArray)=>KCF t)
def Y2 (C42:ByteArray) (C43:Addr) (Xx41:Int):M (Array Value × Int):=do
 let Xx45←slS C42 0 Xx41
 let Xx46←WF Xx45
 let Xx47←mkB KE (#[.int .i64 0,.int .i64 0,.string ByteArray.empty,.slice none 0 0]:Array Value)
 M.need (Xx46.1.size=4)
 stG Xx47 Xx46.1
 let Xx51←M.ite (Xx46.2.2 != 0) (do
  M.pure true
  ) (do
  let Xx52←ldI .i64 ((Xx47).add 0)
  M.pure (Xx52 != 1)
  )
 M.ite Xx51 (do
  M.need ((#[.int .i64 0,.string ByteArray.empty,.int .i64 0,.int .i64 0]:Array Value).size=4)
  stG C43 (#[.int .i64 0,.string ByteArray.empty,.int .i64 0,.int .i64 0]:Array Value)
  let Rr55←ldG 4 C43
  M.pure (Rr55,0)
  ) (do
  let Xx57←ldI .i64 ((Xx47).add 1)
  M.need ((#[.int .i64 2,.string ByteArray.empty,.int .i64 Xx57,.int .i64 0]:Array Value).size=4)
  stG C43 (#[.int .i64 2,.string ByteArray.empty,.int .i64 Xx57,.int .i64 0]:Array Value)
  let Rr59←ldG 4 C43
  M.pure (Rr59,Xx41)
  )
def KAd (x0:ByteArray):M (Array Value × Int):=do
 let Xx2←mkB KP (#[.int .i64 0,.string ByteArray.empty,.int .i64 0,.int .i64 0]:Array Value)
 let Xx5←ixS x0 0
 let Xx7←Wz Xx5
 M.ite Xx7 (do
  let Xx9←slS x0 0 1
  M.need ((#[.int .i64 4,.string Xx9,.int .i64 0,.int .i64 0]:Array Value).size=4)
  stG Xx2 (#[.int .i64 4,.string Xx9,.int .i64 0,.int .i64 0]:Array Value)
  let Rr11←ldG 4 Xx2
  M.pure (Rr11,1)
  ) (do
  let Xx13←Vb Xx5
  M.ite Xx13 (do
   let Xx15←YF x0 0
   let Xx17←slS x0 0 Xx15
   M.need ((#[.int .i64 1,.string Xx17,.int .i64 0,.int .i64 0]:Array Value).size=4)
   stG Xx2 (#[.int .i64 1,.string Xx17,.int .i64 0,.int .i64 0]:Array Value)
   let Rr19←ldG 4 Xx2
   M.pure (Rr19,Xx15)
   ) (do
   M.ite (Xx5 == 39) (do
    let Xx22←Y1 x0
    let Xx24←slS x0 0 Xx22
    let Xx25←WF Xx24
    let Xx26←mkB KE (#[.int .i64 0,.int .i64 0,.string ByteArray.empty,.slice none 0 0]:Array Value)
    M.need (Xx25.1.size=4)
    stG Xx26 Xx25.1
    let Xx30←M.ite (Xx25.2.2 != 0) (do
     M.pure true
     ) (do
     let Xx31←ldI .i64 ((Xx26).add 0)
     M.pure (Xx31 != 2)
     )
    M.ite Xx30 (do
     M.need ((#[.int .i64 0,.string ByteArray.empty,.int .i64 0,.int .i64 0]:Array Value).size=4)
     stG Xx2 (#[.int .i64 0,.string ByteArray.empty,.int .i64 0,.int .i64 0]:Array Value)
     let Rr34←ldG 4 Xx2
     M.pure (Rr34,0)
     ) (do
     let Xx36←ldS ((Xx26).add 2)
     M.need ((#[.int .i64 3,.string Xx36,.int .i64 0,.int .i64 0]:Array Value).size=4)
     stG Xx2 (#[.int .i64 3,.string Xx36,.int .i64 0,.int .i64 0]:Array Value)
     let Rr38←ldG 4 Xx2
     M.pure (Rr38,Xx22)
     )
    ) (do
    let Xx40←YF x0 0
    let Xx61←ixS x0 0
    M.ite (Xx61 == 45) (do
     let Xx62←YF x0 1
     Y2 x0 Xx2 (IntKind.wrap .i64 (1+Xx62))
     ) (do
     Y2 x0 Xx2 Xx40
     )
    )
   )
  )
theorem KDO (x0:ByteArray):Kz Go.Proofs.Tryz.prog 126 #[.string x0] (fun (r:Array Value × Int)=>.tuple #[.agg r.1,.int .i64 r.2]) (KAd x0) :=
 KO [G9,KEE,KDN,KCG,zj] [] [.G,.I .i64] [(0,.S x0)] (.q .o (.q .o (.q .o (.q .o (.j [(0,.S),(2,.A),(10,.I .i64)] (fun (t:ByteArray × Addr × Int)=>Y2 t.1 t.2.1 t.2.2) .o))))) Go.Proofs.Tryz.func126 rfl rfl ⟨rfl,trivial⟩ rfl (by kernel_rfl) (by kernel_rfl)
end Gx
