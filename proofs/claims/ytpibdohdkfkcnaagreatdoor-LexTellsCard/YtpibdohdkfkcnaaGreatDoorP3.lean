/- Printed by program: Go functions as Lean programs, each tied to its code. No condition. -/
import Derived.Test.YtpibdohdkfkcnaaGreatDoorP0
import Derived.Test.YtpibdohdkfkcnaaGreatDoorP1
import Derived.Test.YtpibdohdkfkcnaaGreatDoorP2
import Derived.Test.YtpibdohdkfkcnaaGreatDoorProg
import Derived.KernelRfl
import Derived.Lib.AtoiErrMem
import Derived.Shelf.Small.Strs
import Derived.Shelf.Strconv.Itoa3
import Derived.Shelf.Strconv.ParseInt10All
import Derived.Shelf.Strings.Builder1
import Derived.Shelf.Strings.Count
import Derived.Shelf.Strings.Search1
import Derived.Shelf.Strings.Search2
import Derived.Shelf.Strings.SlTrimAscii
set_option linter.unusedVariables false
set_option linter.unusedSimpArgs false
namespace Gx
open Go
abbrev qF:Nat:=172
abbrev GW:Nat:=173
abbrev KCI:Nat:=171
abbrev zx:Nat:=209
abbrev qG:Nat:=210
abbrev Vv:Nat:=211
abbrev Wx:Nat:=262
abbrev Wi:Nat:=271
abbrev Vw:Nat:=140
abbrev KFw:Nat:=13
abbrev YC:Nat:=49
abbrev KCJ:Nat:=179
abbrev KAc:Nat:=177
abbrev KCK:Nat:=54
abbrev KCL:Nat:=212
abbrev VK:Nat:=92
abbrev NN:Nat:=93
abbrev KDJ:Nat:=178
abbrev KDK:Nat:=253
abbrev KBH:Nat:=258
abbrev KEO:Nat:=260
abbrev GX:Nat:=214
abbrev Xs:Nat:=229
abbrev NO:Nat:=186
abbrev GY:Nat:=33
abbrev Ju:Nat:=74
abbrev qH:Nat:=57
abbrev NP:Nat:=55
abbrev GZ:Nat:=97
abbrev Wj:Nat:=215
abbrev YT:Nat:=129
abbrev YU:Nat:=181
abbrev JD:Nat:=187
abbrev YV:Nat:=185
abbrev Wy:Nat:=183
abbrev Yr:Nat:=184
abbrev ZY:Nat:=128
abbrev qI:Nat:=58
abbrev J5:Nat:=109
abbrev Ga:Nat:=182
abbrev qJ:Nat:=230
abbrev Xt:Nat:=101
abbrev Ur:Nat:=70
abbrev qK:Nat:=117
abbrev Gb:Nat:=110
abbrev NQ:Nat:=118
abbrev Gc:Nat:=23
abbrev Gd:Nat:=127
abbrev Ge:Nat:=47
abbrev Xv:Nat:=94
abbrev NR:Nat:=56
abbrev qL:Nat:=48
abbrev Xw:Nat:=96
abbrev NS:Nat:=95
abbrev Zv:Nat:=175
abbrev UY:Nat:=165
abbrev Vq:Nat:=257
abbrev Uo:Nat:=205
abbrev WN:Nat:=261
abbrev NT:Nat:=259
abbrev Gf:Nat:=267
abbrev XT:Nat:=268
abbrev Xx:Nat:=266
abbrev Xd:Nat:=265
abbrev qM:Nat:=263
abbrev qN:Nat:=174
abbrev Gg:Nat:=100
abbrev KAd:Nat:=99
abbrev KBI:Nat:=153
abbrev Xb:Nat:=124
abbrev KCM:Nat:=53
abbrev KBJ:Nat:=180
abbrev KDL:Nat:=201
abbrev KBK:Nat:=221
abbrev Wz:Nat:=213
abbrev Wq:Nat:=246
abbrev U0:Nat:=227
abbrev KGp:Nat:=76
abbrev zm:Nat:=23
abbrev KM:Nat:=29
abbrev KF:Nat:=54
abbrev KAe:Nat:=4
abbrev YD:Nat:=3
abbrev Kk:Nat:=265
abbrev Ys:Nat:=70
abbrev VZ:Nat:=68
abbrev J6:Nat:=268
abbrev ZL:Nat:=161
abbrev JT:Nat:=22
abbrev NU:Nat:=273
abbrev KGq:Nat:=9
abbrev qO:Nat:=82
abbrev Zs:Nat:=5
abbrev YE:Nat:=233
abbrev Zz:Nat:=229
theorem mo:Go.Proofs.Tryz.prog.follows .mixedOrders=true:=by kernel_rfl
theorem un22:Go.Proofs.Tryz.prog.underlying 22=some (.slice 29):=by kernel_rfl
theorem un3:Go.Proofs.Tryz.prog.underlying 3=some (.int .i64):=by kernel_rfl
theorem un44:Go.Proofs.Tryz.prog.underlying 44=some (.slice 5):=by kernel_rfl
theorem un5:Go.Proofs.Tryz.prog.underlying 5=some (.int .u8):=by kernel_rfl
theorem un52:Go.Proofs.Tryz.prog.underlying 52=some (.slice 54):=by kernel_rfl
theorem un9:Go.Proofs.Tryz.prog.underlying 9=some (.string):=by kernel_rfl
theorem zr22:((Go.Proofs.Tryz.prog.info? 22).bind (·.zero))=some (.slice none 0 0):=by kernel_rfl
theorem KLZ:((Go.Proofs.Tryz.prog.info? 229).bind (·.zero))=some (.agg (#[.int .i64 0]:Array Value)):=by kernel_rfl
theorem zr23:((Go.Proofs.Tryz.prog.info? 23).bind (·.zero))=some (.int .i64 0):=by kernel_rfl
theorem zr29:((Go.Proofs.Tryz.prog.info? 29).bind (·.zero))=some (.agg (#[.int .i64 0,.string ByteArray.empty,.int .i64 0,.int .i64 0]:Array Value)):=by kernel_rfl
theorem zr3:((Go.Proofs.Tryz.prog.info? 3).bind (·.zero))=some (.int .i64 0):=by kernel_rfl
theorem zr5:((Go.Proofs.Tryz.prog.info? 5).bind (·.zero))=some (.int .u8 0):=by kernel_rfl
theorem zr54:((Go.Proofs.Tryz.prog.info? 54).bind (·.zero))=some (.agg (#[.int .i64 0,.int .i64 0,.string ByteArray.empty,.slice none 0 0]:Array Value)):=by kernel_rfl
theorem zr70:((Go.Proofs.Tryz.prog.info? 70).bind (·.zero))=some (.agg (#[.string ByteArray.empty,.int .i64 0]:Array Value)):=by kernel_rfl
theorem ag29:agB Go.Proofs.Tryz.prog 29 4=true:=by kernel_rfl
theorem ag54:agB Go.Proofs.Tryz.prog 54 4=true:=by kernel_rfl
theorem ap22:apB Go.Proofs.Tryz.prog 22 29 4 40 (#[.int .i64 0,.string ByteArray.empty,.int .i64 0,.int .i64 0]:Array Value):=⟨un22,Xp (by kernel_rfl)⟩
theorem ap44:apB Go.Proofs.Tryz.prog 44 5 1 1 (#[.int .u8 0]:Array Value):=⟨un44,Xp (by kernel_rfl)⟩
theorem ap52:apB Go.Proofs.Tryz.prog 52 54 4 56 (#[.int .i64 0,.int .i64 0,.string ByteArray.empty,.slice none 0 0]:Array Value):=⟨un52,Xp (by kernel_rfl)⟩
theorem bd29:∀ w,(Instr.build 29 #[]).run Go.Proofs.Tryz.prog w=.ok (.agg (#[.int .i64 0,.string ByteArray.empty,.int .i64 0,.int .i64 0]:Array Value)) w:=fun w=>by kernel_rfl
theorem bd54:∀ w,(Instr.build 54 #[]).run Go.Proofs.Tryz.prog w=.ok (.agg (#[.int .i64 0,.int .i64 0,.string ByteArray.empty,.slice none 0 0]:Array Value)) w:=fun w=>by kernel_rfl
theorem qP:Callee? Go.Proofs.Tryz.prog 172:=KH Go.Proofs.Tryz.func172 (by kernel_rfl) rfl
theorem Gh:Callee? Go.Proofs.Tryz.prog 173:=KH Go.Proofs.Tryz.func173 (by kernel_rfl) rfl
theorem KCN:Callee? Go.Proofs.Tryz.prog 171:=KH Go.Proofs.Tryz.func171 (by kernel_rfl) rfl
theorem zy:Callee? Go.Proofs.Tryz.prog 209:=KH Go.Proofs.Tryz.func209 (by kernel_rfl) rfl
theorem qQ:Callee? Go.Proofs.Tryz.prog 210:=KH Go.Proofs.Tryz.func210 (by kernel_rfl) rfl
theorem Vx:Callee? Go.Proofs.Tryz.prog 211:=KH Go.Proofs.Tryz.func211 (by kernel_rfl) rfl
theorem W3:Callee? Go.Proofs.Tryz.prog 262:=KH Go.Proofs.Tryz.func262 (by kernel_rfl) rfl
theorem Wk:Callee? Go.Proofs.Tryz.prog 271:=KH Go.Proofs.Tryz.func271 (by kernel_rfl) rfl
theorem Vy:Callee? Go.Proofs.Tryz.prog 140:=KH Go.Proofs.Tryz.func140 (by kernel_rfl) rfl
theorem KDM:Callee? Go.Proofs.Tryz.prog 22:=KH Go.Proofs.Tryz.func22 (by kernel_rfl) rfl
theorem KFx:Callee? Go.Proofs.Tryz.prog 13:=KH Go.Proofs.Tryz.func13 (by kernel_rfl) rfl
theorem qR:Callee? Go.Proofs.Tryz.prog 19:=KH Go.Proofs.Tryz.func19 (by kernel_rfl) rfl
theorem KAf:Callee? Go.Proofs.Tryz.prog 49:=KH Go.Proofs.Tryz.func49 (by kernel_rfl) rfl
theorem KCO:Callee? Go.Proofs.Tryz.prog 179:=KH Go.Proofs.Tryz.func179 (by kernel_rfl) rfl
theorem KAg:Callee? Go.Proofs.Tryz.prog 177:=KH Go.Proofs.Tryz.func177 (by kernel_rfl) rfl
theorem KCP:Callee? Go.Proofs.Tryz.prog 54:=KH Go.Proofs.Tryz.func54 (by kernel_rfl) rfl
theorem KCQ:Callee? Go.Proofs.Tryz.prog 212:=KH Go.Proofs.Tryz.func212 (by kernel_rfl) rfl
theorem KBj:Callee? Go.Proofs.Tryz.prog 126:=KH Go.Proofs.Tryz.func126 (by kernel_rfl) rfl
theorem Yh:Callee? Go.Proofs.Tryz.prog 45:=KH Go.Proofs.Tryz.func45 (by kernel_rfl) rfl
theorem Gi:Callee? Go.Proofs.Tryz.prog 92:=KH Go.Proofs.Tryz.func92 (by kernel_rfl) rfl
theorem WW:Callee? Go.Proofs.Tryz.prog 46:=KH Go.Proofs.Tryz.func46 (by kernel_rfl) rfl
theorem NV:Callee? Go.Proofs.Tryz.prog 93:=KH Go.Proofs.Tryz.func93 (by kernel_rfl) rfl
theorem KDN:Callee? Go.Proofs.Tryz.prog 178:=KH Go.Proofs.Tryz.func178 (by kernel_rfl) rfl
theorem KDO:Callee? Go.Proofs.Tryz.prog 253:=KH Go.Proofs.Tryz.func253 (by kernel_rfl) rfl
theorem KBL:Callee? Go.Proofs.Tryz.prog 258:=KH Go.Proofs.Tryz.func258 (by kernel_rfl) rfl
theorem KEP:Callee? Go.Proofs.Tryz.prog 260:=KH Go.Proofs.Tryz.func260 (by kernel_rfl) rfl
theorem Gj:Callee? Go.Proofs.Tryz.prog 15:=KH Go.Proofs.Tryz.func15 (by kernel_rfl) rfl
theorem YF:Callee? Go.Proofs.Tryz.prog 18:=KH Go.Proofs.Tryz.func18 (by kernel_rfl) rfl
theorem Gk:Callee? Go.Proofs.Tryz.prog 214:=KH Go.Proofs.Tryz.func214 (by kernel_rfl) rfl
theorem Xy:Callee? Go.Proofs.Tryz.prog 229:=KH Go.Proofs.Tryz.func229 (by kernel_rfl) rfl
theorem NW:Callee? Go.Proofs.Tryz.prog 186:=KH Go.Proofs.Tryz.func186 (by kernel_rfl) rfl
theorem Gl:Callee? Go.Proofs.Tryz.prog 33:=KH Go.Proofs.Tryz.func33 (by kernel_rfl) rfl
theorem WI:Callee? Go.Proofs.Tryz.prog 74:=KH Go.Proofs.Tryz.func74 (by kernel_rfl) rfl
theorem qS:Callee? Go.Proofs.Tryz.prog 57:=KH Go.Proofs.Tryz.func57 (by kernel_rfl) rfl
theorem NX:Callee? Go.Proofs.Tryz.prog 55:=KH Go.Proofs.Tryz.func55 (by kernel_rfl) rfl
theorem Gm:Callee? Go.Proofs.Tryz.prog 97:=KH Go.Proofs.Tryz.func97 (by kernel_rfl) rfl
theorem Wl:Callee? Go.Proofs.Tryz.prog 215:=KH Go.Proofs.Tryz.func215 (by kernel_rfl) rfl
theorem YW:Callee? Go.Proofs.Tryz.prog 129:=KH Go.Proofs.Tryz.func129 (by kernel_rfl) rfl
theorem YX:Callee? Go.Proofs.Tryz.prog 181:=KH Go.Proofs.Tryz.func181 (by kernel_rfl) rfl
theorem YY:Callee? Go.Proofs.Tryz.prog 187:=KH Go.Proofs.Tryz.func187 (by kernel_rfl) rfl
theorem YZ:Callee? Go.Proofs.Tryz.prog 185:=KH Go.Proofs.Tryz.func185 (by kernel_rfl) rfl
theorem W5:Callee? Go.Proofs.Tryz.prog 183:=KH Go.Proofs.Tryz.func183 (by kernel_rfl) rfl
theorem Yt:Callee? Go.Proofs.Tryz.prog 184:=KH Go.Proofs.Tryz.func184 (by kernel_rfl) rfl
theorem U1:Callee? Go.Proofs.Tryz.prog 128:=KH Go.Proofs.Tryz.func128 (by kernel_rfl) rfl
theorem qT:Callee? Go.Proofs.Tryz.prog 58:=KH Go.Proofs.Tryz.func58 (by kernel_rfl) rfl
theorem qU:Callee? Go.Proofs.Tryz.prog 109:=KH Go.Proofs.Tryz.func109 (by kernel_rfl) rfl
theorem Gn:Callee? Go.Proofs.Tryz.prog 182:=KH Go.Proofs.Tryz.func182 (by kernel_rfl) rfl
theorem qV:Callee? Go.Proofs.Tryz.prog 230:=KH Go.Proofs.Tryz.func230 (by kernel_rfl) rfl
theorem Xz:Callee? Go.Proofs.Tryz.prog 101:=KH Go.Proofs.Tryz.func101 (by kernel_rfl) rfl
theorem Yi:Callee? Go.Proofs.Tryz.prog 70:=KH Go.Proofs.Tryz.func70 (by kernel_rfl) rfl
theorem qW:Callee? Go.Proofs.Tryz.prog 117:=KH Go.Proofs.Tryz.func117 (by kernel_rfl) rfl
theorem Gp:Callee? Go.Proofs.Tryz.prog 110:=KH Go.Proofs.Tryz.func110 (by kernel_rfl) rfl
theorem NY:Callee? Go.Proofs.Tryz.prog 118:=KH Go.Proofs.Tryz.func118 (by kernel_rfl) rfl
theorem Gq:Callee? Go.Proofs.Tryz.prog 23:=KH Go.Proofs.Tryz.func23 (by kernel_rfl) rfl
theorem X7:Callee? Go.Proofs.Tryz.prog 17:=KH Go.Proofs.Tryz.func17 (by kernel_rfl) rfl
theorem Gr:Callee? Go.Proofs.Tryz.prog 127:=KH Go.Proofs.Tryz.func127 (by kernel_rfl) rfl
theorem Gt:Callee? Go.Proofs.Tryz.prog 47:=KH Go.Proofs.Tryz.func47 (by kernel_rfl) rfl
theorem X8:Callee? Go.Proofs.Tryz.prog 94:=KH Go.Proofs.Tryz.func94 (by kernel_rfl) rfl
theorem NZ:Callee? Go.Proofs.Tryz.prog 56:=KH Go.Proofs.Tryz.func56 (by kernel_rfl) rfl
theorem qX:Callee? Go.Proofs.Tryz.prog 48:=KH Go.Proofs.Tryz.func48 (by kernel_rfl) rfl
theorem X9:Callee? Go.Proofs.Tryz.prog 96:=KH Go.Proofs.Tryz.func96 (by kernel_rfl) rfl
theorem Na:Callee? Go.Proofs.Tryz.prog 95:=KH Go.Proofs.Tryz.func95 (by kernel_rfl) rfl
theorem Zw:Callee? Go.Proofs.Tryz.prog 175:=KH Go.Proofs.Tryz.func175 (by kernel_rfl) rfl
theorem UZ:Callee? Go.Proofs.Tryz.prog 165:=KH Go.Proofs.Tryz.func165 (by kernel_rfl) rfl
theorem Vr:Callee? Go.Proofs.Tryz.prog 257:=KH Go.Proofs.Tryz.func257 (by kernel_rfl) rfl
theorem Jd:Callee? Go.Proofs.Tryz.prog 16:=KH Go.Proofs.Tryz.func16 (by kernel_rfl) rfl
theorem Up:Callee? Go.Proofs.Tryz.prog 205:=KH Go.Proofs.Tryz.func205 (by kernel_rfl) rfl
theorem WO:Callee? Go.Proofs.Tryz.prog 261:=KH Go.Proofs.Tryz.func261 (by kernel_rfl) rfl
theorem Nb:Callee? Go.Proofs.Tryz.prog 259:=KH Go.Proofs.Tryz.func259 (by kernel_rfl) rfl
theorem Gu:Callee? Go.Proofs.Tryz.prog 267:=KH Go.Proofs.Tryz.func267 (by kernel_rfl) rfl
theorem XU:Callee? Go.Proofs.Tryz.prog 268:=KH Go.Proofs.Tryz.func268 (by kernel_rfl) rfl
theorem GA:Callee? Go.Proofs.Tryz.prog 266:=KH Go.Proofs.Tryz.func266 (by kernel_rfl) rfl
theorem Xe:Callee? Go.Proofs.Tryz.prog 265:=KH Go.Proofs.Tryz.func265 (by kernel_rfl) rfl
theorem qY:Callee? Go.Proofs.Tryz.prog 263:=KH Go.Proofs.Tryz.func263 (by kernel_rfl) rfl
theorem qZ:Callee? Go.Proofs.Tryz.prog 174:=KH Go.Proofs.Tryz.func174 (by kernel_rfl) rfl
theorem VL:Callee? Go.Proofs.Tryz.prog 100:=KH Go.Proofs.Tryz.func100 (by kernel_rfl) rfl
theorem KAh:Callee? Go.Proofs.Tryz.prog 99:=KH Go.Proofs.Tryz.func99 (by kernel_rfl) rfl
theorem qa:Callee? Go.Proofs.Tryz.prog 152:=KH Go.Proofs.Tryz.func152 (by kernel_rfl) rfl
theorem KBM:Callee? Go.Proofs.Tryz.prog 153:=KH Go.Proofs.Tryz.func153 (by kernel_rfl) rfl
theorem Xc:Callee? Go.Proofs.Tryz.prog 124:=KH Go.Proofs.Tryz.func124 (by kernel_rfl) rfl
theorem KDP:Callee? Go.Proofs.Tryz.prog 51:=KH Go.Proofs.Tryz.func51 (by kernel_rfl) rfl
theorem KCR:Callee? Go.Proofs.Tryz.prog 53:=KH Go.Proofs.Tryz.func53 (by kernel_rfl) rfl
theorem KBN:Callee? Go.Proofs.Tryz.prog 180:=KH Go.Proofs.Tryz.func180 (by kernel_rfl) rfl
theorem KDQ:Callee? Go.Proofs.Tryz.prog 52:=KH Go.Proofs.Tryz.func52 (by kernel_rfl) rfl
theorem Yu:Callee? Go.Proofs.Tryz.prog 241:=KH Go.Proofs.Tryz.func241 (by kernel_rfl) rfl
theorem KDR:Callee? Go.Proofs.Tryz.prog 201:=KH Go.Proofs.Tryz.func201 (by kernel_rfl) rfl
theorem KBO:Callee? Go.Proofs.Tryz.prog 221:=KH Go.Proofs.Tryz.func221 (by kernel_rfl) rfl
theorem KCS:Callee? Go.Proofs.Tryz.prog 213:=KH Go.Proofs.Tryz.func213 (by kernel_rfl) rfl
theorem Vz:Callee? Go.Proofs.Tryz.prog 245:=KH Go.Proofs.Tryz.func245 (by kernel_rfl) rfl
theorem XV:Callee? Go.Proofs.Tryz.prog 254:=KH Go.Proofs.Tryz.func254 (by kernel_rfl) rfl
theorem K0:Callee? Go.Proofs.Tryz.prog 228:=KH Go.Proofs.Tryz.func228 (by kernel_rfl) rfl
theorem Kj:Callee? Go.Proofs.Tryz.prog 240:=KH Go.Proofs.Tryz.func240 (by kernel_rfl) rfl
theorem Wr:Callee? Go.Proofs.Tryz.prog 246:=KH Go.Proofs.Tryz.func246 (by kernel_rfl) rfl
theorem ZQ:Callee? Go.Proofs.Tryz.prog 244:=KH Go.Proofs.Tryz.func244 (by kernel_rfl) rfl
theorem WJ:Callee? Go.Proofs.Tryz.prog 242:=KH Go.Proofs.Tryz.func242 (by kernel_rfl) rfl
theorem Nc:Callee? Go.Proofs.Tryz.prog 243:=KH Go.Proofs.Tryz.func243 (by kernel_rfl) rfl
theorem U2:Callee? Go.Proofs.Tryz.prog 227:=KH Go.Proofs.Tryz.func227 (by kernel_rfl) rfl
theorem Wm:KBD Go.Proofs.Tryz.prog 233 0=some 0:=by kernel_rfl
theorem ZT:KBD Go.Proofs.Tryz.prog 233 1=some 1:=by kernel_rfl
theorem KJJ:KBD Go.Proofs.Tryz.prog 29 3=some 3:=by kernel_rfl
theorem KLa:KBD Go.Proofs.Tryz.prog 70 0=some 0:=by kernel_rfl
theorem KDS:KBD Go.Proofs.Tryz.prog 70 1=some 1:=by kernel_rfl
theorem KMb:fnB Go.Proofs.Tryz.prog 34=true:=by kernel_rfl
theorem KMc:niB Go.Proofs.Tryz.prog 229=true:=by kernel_rfl
theorem KMd:Wv Go.Proofs.Tryz.prog 229=some [(0,1)]:=by kernel_rfl
theorem pl54:Wv Go.Proofs.Tryz.prog 54=some [(0,1),(1,1),(2,1),(3,1)]:=by kernel_rfl
theorem pl70:Wv Go.Proofs.Tryz.prog 70=some [(0,1),(1,1)]:=by kernel_rfl
theorem sc22:scB Go.Proofs.Tryz.prog 22=true:=by kernel_rfl
theorem sc23:scB Go.Proofs.Tryz.prog 23=true:=by kernel_rfl
theorem sc3:scB Go.Proofs.Tryz.prog 3=true:=by kernel_rfl
theorem sc76:scB Go.Proofs.Tryz.prog 76=true:=by kernel_rfl
theorem sc9:scB Go.Proofs.Tryz.prog 9=true:=by kernel_rfl
theorem sz22:szB Go.Proofs.Tryz.prog 22 1=true:=by kernel_rfl
theorem sz23:szB Go.Proofs.Tryz.prog 23 1=true:=by kernel_rfl
theorem sz29:szB Go.Proofs.Tryz.prog 29 4=true:=by kernel_rfl
theorem sz3:szB Go.Proofs.Tryz.prog 3 1=true:=by kernel_rfl
theorem sz5:szB Go.Proofs.Tryz.prog 5 1=true:=by kernel_rfl
theorem sz54:szB Go.Proofs.Tryz.prog 54 4=true:=by kernel_rfl
end Gx
namespace Gx
open Go Go.Proofs Go.Shelf Go.Sort Go.RowKit
set_option linter.unusedVariables false
set_option linter.unusedSimpArgs false
set_option maxRecDepth 100000
def KFD:Go.Shelf.Ren:=⟨fun | 119=>236 | 120=>220 | 129=>248 | 137=>100 | 138=>207 | 143=>208 | 151=>192 | 152=>219 | 160=>99 | 195=>222 | 197=>191 | 213=>211 | 217=>140 | 218=>223 | 219=>224 | 224=>237 | 225=>238 | 227=>135 | 228=>190 | 231=>133 | 232=>134 | 233=>136 | 234=>137 | 235=>138 | 236=>139 | 240=>102 | 246=>216 | 247=>262 | 260=>218 | 265=>225 | 266=>194 | 267=>239 | 271=>193 | 276=>141 | 283=>231 | 284=>232 | 285=>233 | 286=>234 | 287=>264 | 314=>252 | 317=>247 | 318=>249 | 319=>250 | 320=>251 | 321=>269 | 322=>270 | 337=>255 | 338=>256 | n=>n,fun | 0=>0 | 2=>2 | 3=>3 | 4=>4 | 5=>5 | 9=>9 | 20=>20 | 21=>21 | 37=>44 | 46=>210 | 51=>251 | 53=>216 | 70=>80 | 72=>82 | 75=>84 | 80=>88 | 105=>211 | 116=>166 | 117=>167 | 119=>242 | 124=>170 | 138=>244 | 139=>245 | 146=>254 | 164=>171 | 167=>265 | 171=>236 | 173=>239 | 175=>266 | 212=>250 | 213=>252 | 232=>261 | 233=>262 | n=>n,fun | 1=>0 | 3=>1 | 4=>2 | 17=>3 | 18=>4 | 19=>5 | n=>n⟩
theorem KCT:Lays.n213 Go.Proofs.Tryz.prog KFD:={
 mixed:=by kernel_rfl
 f213:=Tryz.func211.trans (congrArg some (by kernel_rfl))
 f265:=Tryz.func225.trans (congrArg some (by kernel_rfl))
 t3:=Tryz.underlying3
 a3:=Tryz.isAgg3
 z3:=Tryz.sizeOf3
 v3:=Tryz.zeroValue3
 t9:=Tryz.underlying9
 a9:=Tryz.isAgg9
 z9:=Tryz.sizeOf9
 v9:=Tryz.zeroValue9 }
theorem KCU:Lays.n217 Go.Proofs.Tryz.prog KFD:={
 mixed:=by kernel_rfl
 f217:=Tryz.func140.trans (congrArg some (by kernel_rfl))
 f266:=Tryz.func194.trans (congrArg some (by kernel_rfl))
 t3:=Tryz.underlying3
 a3:=Tryz.isAgg3
 z3:=Tryz.sizeOf3
 v3:=Tryz.zeroValue3
 t5:=Tryz.underlying5
 a5:=Tryz.isAgg5
 z5:=Tryz.sizeOf5
 v5:=Tryz.zeroValue5
 t9:=Tryz.underlying9
 a9:=Tryz.isAgg9
 z9:=Tryz.sizeOf9
 v9:=Tryz.zeroValue9 }
theorem KBP:LaysC.n247 Go.Proofs.Tryz.prog KFD:={
 mixed:=by kernel_rfl
 f247:=Tryz.func262.trans (congrArg some (by kernel_rfl))
 f287:=Tryz.func264.trans (congrArg some (by kernel_rfl))
 f321:=Tryz.func269.trans (congrArg some (by kernel_rfl))
 f322:=Tryz.func270.trans (congrArg some (by kernel_rfl))
 t0:=Tryz.underlying0
 a0:=Tryz.isAgg0
 z0:=Tryz.sizeOf0
 v0:=Tryz.zeroValue0
 t2:=Tryz.underlying2
 a2:=Tryz.isAgg2
 z2:=Tryz.sizeOf2
 v2:=Tryz.zeroValue2
 t3:=Tryz.underlying3
 a3:=Tryz.isAgg3
 z3:=Tryz.sizeOf3
 v3:=Tryz.zeroValue3
 t4:=Tryz.underlying4
 a4:=Tryz.isAgg4
 z4:=Tryz.sizeOf4
 v4:=Tryz.zeroValue4
 t5:=Tryz.underlying5
 a5:=Tryz.isAgg5
 z5:=Tryz.sizeOf5
 v5:=Tryz.zeroValue5
 t9:=Tryz.underlying9
 a9:=Tryz.isAgg9
 z9:=Tryz.sizeOf9
 v9:=Tryz.zeroValue9
 t21:=Tryz.underlying21
 a21:=Tryz.isAgg21
 z21:=Tryz.sizeOf21
 v21:=Tryz.zeroValue21
 t37:=Tryz.underlying44
 a37:=Tryz.isAgg44
 z37:=Tryz.sizeOf44
 v37:=Tryz.zeroValue44
 t46:=Tryz.underlying210
 a46:=Tryz.isAgg210
 z46:=Tryz.sizeOf210
 v46:=Tryz.zeroValue210
 t53:=Tryz.underlying216
 a53:=Tryz.isAgg216
 z53:=Tryz.sizeOf216
 v53:=Tryz.zeroValue216
 t75:=Tryz.underlying84
 a75:=Tryz.isAgg84
 z75:=Tryz.sizeOf84
 v75:=Tryz.zeroValue84
 t167:=Tryz.underlying265
 a167:=Tryz.isAgg265
 z167:=Tryz.sizeOf265
 v167:=Tryz.zeroValue265
 t175:=Tryz.underlying266
 a175:=Tryz.isAgg266
 z175:=Tryz.sizeOf266
 v175:=Tryz.zeroValue266
 t80:=Tryz.underlying88
 a80:=Tryz.isAgg88
 z80:=Tryz.sizeOf88
 v80:=Tryz.zeroValue88
 i0:=by kernel_rfl
 i2:=by kernel_rfl
 i3:=by kernel_rfl
 i4:=by kernel_rfl
 i5:=by kernel_rfl
 i9:=by kernel_rfl
 i21:=by kernel_rfl
 i37:=by kernel_rfl
 i46:=by kernel_rfl
 i53:=by kernel_rfl
 i75:=by kernel_rfl
 i80:=by kernel_rfl
 i167:=by kernel_rfl
 i175:=by kernel_rfl
 c0:=by kernel_rfl
 c2:=by kernel_rfl
 c3:=by kernel_rfl
 c4:=by kernel_rfl
 c5:=by kernel_rfl
 c9:=by kernel_rfl
 c21:=by kernel_rfl
 c37:=by kernel_rfl
 c46:=by kernel_rfl
 c53:=by kernel_rfl
 c75:=by kernel_rfl
 c80:=by kernel_rfl
 c167:=by kernel_rfl
 c175:=by kernel_rfl }
theorem KCV:Lays.n160 Go.Proofs.Tryz.prog KFD:={
 mixed:=by kernel_rfl
 f119:=Tryz.func236.trans (congrArg some (by kernel_rfl))
 f120:=Tryz.func220.trans (congrArg some (by kernel_rfl))
 f137:=Tryz.func100.trans (congrArg some (by kernel_rfl))
 f151:=Tryz.func192.trans (congrArg some (by kernel_rfl))
 f152:=Tryz.func219.trans (congrArg some (by kernel_rfl))
 f160:=Tryz.func99.trans (congrArg some (by kernel_rfl))
 f197:=Tryz.func191.trans (congrArg some (by kernel_rfl))
 f217:=Tryz.func140.trans (congrArg some (by kernel_rfl))
 f224:=Tryz.func237.trans (congrArg some (by kernel_rfl))
 f225:=Tryz.func238.trans (congrArg some (by kernel_rfl))
 f227:=Tryz.func135.trans (congrArg some (by kernel_rfl))
 f228:=Tryz.func190.trans (congrArg some (by kernel_rfl))
 f231:=Tryz.func133.trans (congrArg some (by kernel_rfl))
 f232:=Tryz.func134.trans (congrArg some (by kernel_rfl))
 f233:=Tryz.func136.trans (congrArg some (by kernel_rfl))
 f234:=Tryz.func137.trans (congrArg some (by kernel_rfl))
 f235:=Tryz.func138.trans (congrArg some (by kernel_rfl))
 f236:=Tryz.func139.trans (congrArg some (by kernel_rfl))
 f260:=Tryz.func218.trans (congrArg some (by kernel_rfl))
 f266:=Tryz.func194.trans (congrArg some (by kernel_rfl))
 f271:=Tryz.func193.trans (congrArg some (by kernel_rfl))
 t0:=Tryz.underlying0
 a0:=Tryz.isAgg0
 z0:=Tryz.sizeOf0
 v0:=Tryz.zeroValue0
 t3:=Tryz.underlying3
 a3:=Tryz.isAgg3
 z3:=Tryz.sizeOf3
 v3:=Tryz.zeroValue3
 t4:=Tryz.underlying4
 a4:=Tryz.isAgg4
 z4:=Tryz.sizeOf4
 v4:=Tryz.zeroValue4
 t5:=Tryz.underlying5
 a5:=Tryz.isAgg5
 z5:=Tryz.sizeOf5
 v5:=Tryz.zeroValue5
 t9:=Tryz.underlying9
 a9:=Tryz.isAgg9
 z9:=Tryz.sizeOf9
 v9:=Tryz.zeroValue9
 t21:=Tryz.underlying21
 a21:=Tryz.isAgg21
 z21:=Tryz.sizeOf21
 v21:=Tryz.zeroValue21
 t46:=Tryz.underlying210
 a46:=Tryz.isAgg210
 z46:=Tryz.sizeOf210
 v46:=Tryz.zeroValue210
 t105:=Tryz.underlying211
 a105:=Tryz.isAgg211
 z105:=Tryz.sizeOf211
 v105:=Tryz.zeroValue211
 t116:=Tryz.underlying166
 a116:=Tryz.isAgg166
 z116:=Tryz.sizeOf166
 t117:=Tryz.underlying167
 a117:=Tryz.isAgg167
 z117:=Tryz.sizeOf167
 v117:=Tryz.zeroValue167
 t119:=Tryz.underlying242
 a119:=Tryz.isAgg242
 z119:=Tryz.sizeOf242
 t124:=Tryz.underlying170
 a124:=Tryz.isAgg170
 z124:=Tryz.sizeOf170
 v124:=Tryz.zeroValue170
 t138:=Tryz.underlying244
 a138:=Tryz.isAgg244
 z138:=Tryz.sizeOf244
 v138:=Tryz.zeroValue244
 t139:=Tryz.underlying245
 a139:=Tryz.isAgg245
 z139:=Tryz.sizeOf245
 v139:=Tryz.zeroValue245
 g3:=by kernel_rfl
 g4:=by kernel_rfl }
def Zk (x0 x1:ByteArray):M Int:=M.pure (Lib.compareBytes x0.data.toList x1.data.toList)
theorem WG (x0 x1:ByteArray):Ky Go.Proofs.Tryz.prog 211 #[.string x0,.string x1] (fun (r:Int)=>.int .i64 r) (Zk x0 x1):=by
 intro w Q H
 refine (Any.bytealg_CompareString KCT x0 x1 w).mono ?_
 rintro e w' ⟨rfl,rfl⟩
 exact ⟨_,rfl,H,Rest.refl _⟩
def ZM (x0:ByteArray) (x1:Int):M Int:=M.pure (Lib.indexByte x0.data.toList x1.toNat.toUInt8)
theorem WH (x0:ByteArray) (x1:Int):Ky Go.Proofs.Tryz.prog 140 #[.string x0,.int .u8 x1] (fun (r:Int)=>.int .i64 r) (ZM x0 x1):=by
 intro w Q H
 refine (Any.stringslite_IndexByte KCU x0 x1 w).mono ?_
 rintro e w' ⟨rfl,rfl⟩
 exact ⟨_,rfl,H,Rest.refl _⟩
def UG (x0:ByteArray) (x1:Int) (x2:Int):M (Int × Value) :=
 ⟨fun h Q=>x1=10∧x2=64∧x0.size≤9223372036854775806∧∀ h':Heap,h.size≤h'.size→(∀ i,i < h.size→h'[i]?=h[i]?)→(match Lib.parseIntB 64 x0.data.toList with | .ok v=>Q (v,.nilIface) h' | .range=>Q (Lib.intSat 64 x0.data.toList,.iface 265 (.int .i64 1)) h' | _=>Q (0,.iface 265 (.int .i64 2)) h'),
  fun hq ⟨h0,h1,h2,h3⟩=>⟨h0,h1,h2,fun h' a b=>by have h5:=h3 h' a b; revert h5; cases Lib.parseIntB 64 x0.data.toList <;> exact fun h5=>hq _ _ h5⟩⟩
theorem YG (x0:ByteArray) (x1:Int) (x2:Int):Ky Go.Proofs.Tryz.prog 262 #[.string x0,.int .i64 x1,.int .i64 x2] (fun (r:Int × Value)=>.tuple #[.int .i64 r.1,r.2]) (UG x0 x1 x2):=by
 intro w Q ⟨h0,h1,h2,h4⟩
 subst h0
 subst h1
 refine (Any.internal_strconv_ParseInt_10_all64 KBP x0 h2 w).mono ?_
 rintro e w' ⟨rfl,hw⟩
 have hb:w.heap.size≤w'.heap.size∧(∀ i,i < w.heap.size→w'.heap[i]?=w.heap[i]?)∧Rest w w':=by
  rcases hw with rfl | ⟨t,rfl⟩
  ·exact ⟨Nat.le_refl _,fun _ _=>rfl,Rest.refl _⟩
  ·have hb:=Lib.bytesWorld_below w (5) t
   exact ⟨hb.size,hb.block,⟨hb.os,hb.output,hb.tape,Nat.le_succ w.drawn⟩⟩
 obtain ⟨b1,b2,b3⟩:=hb
 have h5:=h4 _ b1 b2
 cases hp:Lib.parseIntB 64 x0.data.toList <;> (rw [hp] at h5; exact ⟨_,rfl,h5,b3⟩)
def Vc (x0:ByteArray) (x1:ByteArray):M (Option Addr):=M.fail
theorem GB (x0:ByteArray) (x1:ByteArray):Ky Go.Proofs.Tryz.prog 265 #[.string x0,.string x1] (fun (r:Option Addr)=>.pointer r) (Vc x0 x1):=fun w Q H=>H.elim
def WP (x0:ByteArray) (x1:ByteArray) (x2:Int):M (Option Addr):=M.fail
theorem Nd (x0:ByteArray) (x1:ByteArray) (x2:Int):Ky Go.Proofs.Tryz.prog 267 #[.string x0,.string x1,.int .i64 x2] (fun (r:Option Addr)=>.pointer r) (WP x0 x1 x2):=fun w Q H=>H.elim
def VM (x0:ByteArray) (x1:ByteArray) (x2:Int):M (Option Addr):=M.fail
theorem Xf (x0:ByteArray) (x1:ByteArray) (x2:Int):Ky Go.Proofs.Tryz.prog 268 #[.string x0,.string x1,.int .i64 x2] (fun (r:Option Addr)=>.pointer r) (VM x0 x1 x2):=fun w Q H=>H.elim
def KDT (h:Heap):Prop:=∃ fz ty,h[3]?=some (.cells (Lib.pow10Tab.map fun z=>Value.int .u64 z).toArray ty fz)
def KGr (h:Heap):Prop:=∃ cs ty fz,h[5]?=some (.cells cs ty fz)∧cs[15]?=some (.int .u8 4)
def Vn (x0 x1:ByteArray):M ByteArray :=
 ⟨fun h Q=>2≤x1.size∧x1.size < 4294967281∧0 < x0.size∧x0.size≤9223372036854775807∧(∀ (j:Nat) b,x1.data.toList[j]?=some b→b.toNat < 128)∧∀ h':Heap,h.size≤h'.size→(∀ i,i < h.size→h'[i]?=h[i]?)→Q ⟨(Lib.trimS x0.data.toList x1.data.toList).toArray⟩ h',
  fun hq ⟨h0,h1,h2,h3,h4,h5⟩=>⟨h0,h1,h2,h3,h4,fun h' a b=>hq _ _ (h5 h' a b)⟩⟩
theorem KBQ (x0 x1:ByteArray):Ky Go.Proofs.Tryz.prog 99 #[.string x0,.string x1] (fun (r:ByteArray)=>.string r) (Vn x0 x1):=by
 intro w Q ⟨h0,h1,h2,h3,h4,h5⟩
 have h116:(Go.Proofs.Tryz.prog.info? (166)).map (fun i=>(i.zero,i.size))=some (some (.agg (Array.replicate 256 (.bool false))),256):=by kernel_rfl
 refine (Any.strings_Trim_set KCV (zero_of_info h116).1 (zero_of_info h116).2 x0 x1 w h0 h2 h3 h1 h4).mono ?_
 rintro e w' ⟨rfl,q,rfl⟩
 refine ⟨_,rfl,h5 _ ?_ ?_,⟨rfl,rfl,rfl,Nat.le_add_right _ _⟩⟩
 ·show w.heap.size≤((w.heap.push _).push _).size
  simp; omega
 ·intro i hi
  show ((w.heap.push _).push _)[i]?=_
  rw [Array.getElem?_push,if_neg (by rw [Array.size_push]; omega),Array.getElem?_push,if_neg (by omega)]
abbrev gER:Nat:=7
end Gx
namespace Gx
open Go
set_option linter.unusedVariables false
set_option maxRecDepth 100000
def U3 (x0:Option Addr):M (Value):=do
 let Xx2←mkB VZ #[.pointer x0]
 M.pure (Value.func (.func VK) #[] #[.pointer (some Xx2)])
theorem Y4 (x0:Option Addr):Ky Go.Proofs.Tryz.prog 45 #[.pointer x0] (fun (r:Value)=>r) (U3 x0) :=
 KQ [] [0] [.V] [(0,.P x0)] .o Go.Proofs.Tryz.func45 rfl rfl ⟨rfl,trivial⟩ rfl (by kernel_rfl) (by kernel_rfl)
def JU (C3:Option Addr):M (Bool):=do
 let Xx5←nilP C3
 let Xx6←nilP C3
 let Xx7←ldI .i64 ((Xx5).add 1)
 let Xx8←ldS ((Xx6).add 0)
 M.pure (decide (Xx7 < (Xx8.size:Int)))
def JV (self1:(Unit)→M (Bool)) (C24:Option Addr) (Xx23:Bool):M (Bool):=do
 M.ite Xx23 (do
  let Xx25←nilP C24
  let Xx26←ldI .i64 ((Xx25).add 1)
  let Xx27←nilP C24
  stV ((Xx27).add 1) (.int .i64 (IntKind.wrap .i64 (Xx26+1)))
  self1 ()
  ) (do
  JU C24
  )
def U4 (C9:Option Addr) (self1:(Unit)→M (Bool)):(Unit)→M (Bool):=fun s=>match s with
 | ()=>do
  let Xx13←nilP C9
  let Xx14←nilP C9
  let Xx15←ldI .i64 ((Xx13).add 1)
  let Xx16←ldS ((Xx14).add 0)
  M.ite (decide (Xx15 < (Xx16.size:Int))) (do
   let Xx18←nilP C9
   let Xx19←nilP C9
   let Xx20←ldS ((Xx18).add 0)
   let Xx21←ldI .i64 ((Xx19).add 1)
   let Xx22←ixS Xx20 Xx21
   M.ite (Xx22 == 32) (do
    JV self1 C9 (Xx22 == 32)
    ) (do
    JV self1 C9 (Xx22 == 10)
    )
   ) (do
   JU C9
   )
def J7 (x0:Option Addr):M (Bool):=do
 M.loop (U4 x0) ()
theorem Ws (x0:Option Addr):Ky Go.Proofs.Tryz.prog 46 #[.pointer x0] (fun (r:Bool)=>.bool r) (J7 x0) :=
 KQ [] [0,3,7,13,17,25,32,36] [.B] [(0,.P x0)] (.q .o (.b (.q .o (.q (.b (.l [(0,.P)] [] (fun (t:Option Addr)=>U4 t) (fun self1=>.q (.q (.r [0,1,2,4,0,16,32,64,128,264] [0,1,2,4,0,16,32,64,128,264] [0,1,3,7,0,16,48,112,240,511] (.pu 0 (.pu 1 (.pu 2 (.pu 4 (.pu 5 (.pu 6 (.pu 3 (.pu 7 (.pu 8 (.pu 9 (.st [9] .dn)))))))))))) .o) (.b (.q (.r [0,1,2,4,0,16,32,64,136] [0,1,2,4,0,16,32,64,136] [0,1,3,7,0,16,48,112,255] (.pu 0 (.pu 1 (.pu 2 (.pu 4 (.pu 5 (.pu 6 (.pu 3 (.pu 7 (.pu 8 (.st [8] .dn))))))))))) (.b (.q .o (.j [(0,.P),(22,.B)] (fun (t:Option Addr × Bool)=>JV self1 t.1 t.2) .o)))))))) (.j [(0,.P)] (fun (t:Option Addr)=>JU t) (.q (.r [0,1,2,4,0,16,32,64,128,264,1023] [0,1,2,4,0,16,32,64,128,264,512] [0,1,3,7,0,16,48,112,240,511,1023] (.pu 0 (.pu 1 (.pu 2 (.pu 4 (.pu 5 (.pu 6 (.pu 3 (.pu 7 (.pu 8 (.pu 9 (.pu 10 (.st [9,10] .dn))))))))))))) .o)))))) Go.Proofs.Tryz.func46 rfl rfl ⟨rfl,trivial⟩ rfl (by kernel_rfl) (by kernel_rfl)
theorem KLb:KAP Go.Proofs.Tryz.f13 8 [[],[0],[],[1,2,0,1,2],[3,0,1,2,3]] [[],[0],[],[1],[]] [[],[0],[],[0,1,2],[0,1,2,3]]=true:=by kernel_rfl
def GP (C21:Addr) (C22:Addr) (C23:Addr) (C24:Addr) (lp1:Nat):(Array Value)→M Nat:=fun x=>match x with
 | Xx25=>do
  let Xx26←mkB KM (#[.int .i64 0,.string ByteArray.empty,.int .i64 0,.int .i64 0]:Array Value)
  M.need (Xx25.size=4)
  stG Xx26 Xx25
  let _←beg lp1
  let Xx30←ldL C24
  M.ite ((Xx30.len:Int) == 4096) (do
   let Xx32←ldI .i64 ((Xx26).add 3)
   stV C21 ((Sl.nil:Sl).v)
   chk (fun h:Heap=>(KV h ((Xx26).add 3)=some (.int .i64 Xx32)))
   stV C22 (.int .i64 Xx32)
   stV C23 (.int .i64 3)
   M.pure 1
   ) (do
   let Xx36←ldL C24
   let Xx37←ldG 4 Xx26
   let y_39←GV 4 1 (#[.int .i64 0,.string ByteArray.empty,.int .i64 0,.int .i64 0]:Array Value) [(0,.agg Xx37)]
   let Xx38←bdL KM 1 y_39
   let Xx40←apL KM 4 40 (#[.int .i64 0,.string ByteArray.empty,.int .i64 0,.int .i64 0]:Array Value) Xx36 Xx38
   stV C24 ((Xx40:Sl).v)
   M.pure 0
   )
theorem KKG:KAP Go.Proofs.Tryz.f13 11 [[],[0],[1],[2],[],[3,4,0,1,2,3,4],[5,0,1,2,3,4,5]] [[],[0],[1],[2],[],[3],[]] [[],[0],[0,1],[0,1,2],[],[0,1,2,3,4],[0,1,2,3,4,5]]=true:=by kernel_rfl
def zF (x0:ByteArray):M (Sl × Int × Int):=do
 let Xx2←mkB JT (#[.slice none 0 0]:Array Value)
 let Xx3←mkB YD (#[.int .i64 0]:Array Value)
 let Xx4←mkB zm (#[.int .i64 0]:Array Value)
 M.ite (decide ((x0.size:Int) > 16384)) (do
  stV Xx2 ((Sl.nil:Sl).v)
  stV Xx3 (.int .i64 0)
  stV Xx4 (.int .i64 3)
  let _←shut ([])
  let Rr11←ldL Xx2
  let Rr12←ldI .i64 Xx3
  let Rr13←ldI .i64 Xx4
  M.pure (Rr11,Rr12,Rr13)
  ) (do
  let Xx15←mkB Ys (#[.string x0,.int .i64 0]:Array Value)
  let Xx17←mkB JT (#[.slice none 0 0]:Array Value)
  let Xx20←U3 (some Xx15)
  let j_42←rgF Go.Proofs.Tryz.prog (fun x:Array Value=>[.agg x]) [.ret] (GP Xx2 Xx3 Xx4 Xx17) Xx20
  M.ite (decide (j_42.1=1)) (do
   let _←shut (j_42.2::[])
   let Rr43←ldL Xx2
   let Rr44←ldI .i64 Xx3
   let Rr45←ldI .i64 Xx4
   M.pure (Rr43,Rr44,Rr45)
   ) (do
   let Xx48←J7 (some Xx15)
   M.ite Xx48 (do
    let Xx50←nilP (some Xx15)
    let Xx51←ldI .i64 ((Xx50).add 1)
    stV Xx2 ((Sl.nil:Sl).v)
    chk (fun h:Heap=>(KV h ((Xx50).add 1)=some (.int .i64 Xx51)))
    stV Xx3 (.int .i64 Xx51)
    stV Xx4 (.int .i64 150)
    let _←shut (j_42.2::[])
    let Rr55←ldL Xx2
    let Rr56←ldI .i64 Xx3
    let Rr57←ldI .i64 Xx4
    M.pure (Rr55,Rr56,Rr57)
    ) (do
    let Xx59←ldL Xx17
    stV Xx2 ((Xx59:Sl).v)
    stV Xx3 (.int .i64 (x0.size:Int))
    stV Xx4 (.int .i64 0)
    let _←shut (j_42.2::[])
    let Rr63←ldL Xx2
    let Rr64←ldI .i64 Xx3
    let Rr65←ldI .i64 Xx4
    M.pure (Rr63,Rr64,Rr65)
    )
   )
  )
theorem KGs (x0:ByteArray):Ky Go.Proofs.Tryz.prog 13 #[.string x0] (fun (r:Sl × Int × Int)=>.tuple #[(r.1:Sl).v,.int .i64 r.2.1,.int .i64 r.2.2]) (zF x0):=by
 refine KAZ [(0,.string x0)] Go.Proofs.Tryz.func13 rfl rfl (Nat.le_of_ble_eq_true rfl) (VI ⟨rfl,trivial⟩) (fun w0 w Q R a hret hE hR H=>?_)
 unfold zF at H
 refine KZ (fun K hK_1=>?_)
 refine KE ?_
 obtain ⟨Xx2,qXx2,H⟩:=H
 refine Uv (v:=.pointer (some Xx2)) rfl rfl hE rfl hR (UM zr22 qXx2) (fun a w hE hR hh=>?_)
 replace H:=M.at hh H; clear hh
 obtain ⟨Xx3,qXx3,H⟩:=H
 refine Uv (v:=.pointer (some Xx3)) rfl rfl hE rfl hR (UM zr3 qXx3) (fun a w hE hR hh=>?_)
 replace H:=M.at hh H; clear hh
 obtain ⟨Xx4,qXx4,H⟩:=H
 refine Uv (v:=.pointer (some Xx4)) rfl rfl hE rfl hR (UM zr23 qXx4) (fun a w hE hR hh=>?_)
 replace H:=M.at hh H; clear hh
 refine KY ?_
 refine hK_1 _ _ ?_
 refine KZ (fun K hK_5=>?_)
 refine KZ (fun K hK_6=>?_)
 refine KE ?_
 refine KD (v:=.string x0) rfl rfl hE rfl (KG hE rfl) (fun a hE=>?_)
 refine KD (v:=.int .i64 (x0.size:Int)) rfl rfl hE rfl (Wn hE rfl un9) (fun a hE=>?_)
 refine KD (v:=.bool (decide ((x0.size:Int) > 16384))) rfl rfl hE rfl (ZK hE rfl rfl ZG KB0) (fun a hE=>?_)
 refine KY ?_
 refine hK_6 _ _ ?_
 refine Z0 (decide ((x0.size:Int) > 16384)) hE rfl (fun hb=>?_) (fun hb=>?_)
 ·replace H:=M.ite_t hb H
  refine KZ (fun K hK_7=>?_)
  refine KE ?_
  obtain ⟨u_8,qu_8,H⟩:=H
  refine UN rfl rfl hE hR (Zb hE rfl rfl sz22 qu_8) (fun a w hE hR hh=>?_)
  replace H:=M.at hh H; clear hh
  obtain ⟨u_9,qu_9,H⟩:=H
  refine UN rfl rfl hE hR (Zb hE rfl rfl sz3 qu_9) (fun a w hE hR hh=>?_)
  replace H:=M.at hh H; clear hh
  obtain ⟨u_10,qu_10,H⟩:=H
  refine UN rfl rfl hE hR (Zb hE rfl rfl sz23 qu_10) (fun a w hE hR hh=>?_)
  replace H:=M.at hh H; clear hh
  refine KY ?_
  refine hK_7 _ _ ?_
  refine VT ?_
  refine hret _ _ _ _ _ hE hR (M.unbind H) (fun w hR H=>?_)
  obtain ⟨Rr11,qRr11,H⟩:=H
  obtain ⟨Rr12,qRr12,H⟩:=H
  obtain ⟨Rr13,qRr13,H⟩:=H
  exact ⟨(Rr11,Rr12,Rr13),_,Zc hE rfl (RV.cell rfl sc22 qRr11 (RV.cell rfl sc3 qRr12 (RV.cell rfl sc23 qRr13 RV.nil))),rfl,H⟩
 ·replace H:=M.ite_f hb H
  refine Jm ?_
  refine hK_5 _ _ ?_
  refine KZ (fun K hK_14=>?_)
  refine KE ?_
  refine KD (v:=.string x0) rfl rfl hE rfl (KG hE rfl) (fun a hE=>?_)
  refine KD (v:=.agg (#[.string x0,.int .i64 0]:Array Value)) rfl rfl hE rfl (Yq hE rfl zr70 pl70 (by rfl)) (fun a hE=>?_)
  obtain ⟨Xx15,qXx15,H⟩:=H
  refine Uv (v:=.pointer (some Xx15)) rfl rfl hE rfl hR (KFf hE rfl qXx15) (fun a w hE hR hh=>?_)
  replace H:=M.at hh H; clear hh
  refine KD (v:=.pointer (some Xx15)) rfl rfl hE rfl (Ka hE rfl) (fun a hE=>?_)
  refine KY ?_
  refine hK_14 _ _ ?_
  refine KZ (fun K hK_16=>?_)
  refine KE ?_
  obtain ⟨Xx17,qXx17,H⟩:=H
  refine Uv (v:=.pointer (some Xx17)) rfl rfl hE rfl hR (UM zr22 qXx17) (fun a w hE hR hh=>?_)
  replace H:=M.at hh H; clear hh
  refine KY ?_
  refine hK_16 _ _ ?_
  refine KZ (fun K hK_18=>?_)
  refine KZ (fun K hK_19=>?_)
  refine KE ?_
  refine KD (v:=.pointer (some Xx15)) rfl rfl hE rfl (KG hE rfl) (fun a hE=>?_)
  refine UO hE hR Yh rfl (Y4 (some Xx15)) (M.unbind H) (fun Xx20 a w ea hR H=>?_)
  have hE:=Env.put_some hE rfl ea; clear ea
  refine KY ?_
  refine hK_19 _ _ ?_
  refine VG ?_
  refine KCA (js:=[.ret]) (enc:=(fun x:Array Value=>[.agg x])) (Y:=(GP Xx2 Xx3 Xx4 Xx17)) hE hR rfl (fun x=>rfl) rfl (M.unbind H) (fun lp1 Xx25 Q w0 Rr hfin a w hE hR H=>?_) (fun j_42 a w hE hR H=>?_)
  ·skip
   replace hE:Env (⟨35,[]⟩:Frm) a [(2,.pointer (some Xx2)),(3,.pointer (some Xx3)),(4,.pointer (some Xx4)),(6,.pointer (some Xx17)),(16,.agg Xx25)]:=Env.cut hE (.cons rfl (.cons rfl (.cons rfl (.cons rfl (.cons rfl Subs.nil)))))
   replace H:(GP Xx2 Xx3 Xx4 Xx17 lp1 Xx25).wp w.heap Q:=H
   unfold GP at H
   refine KE ?_
   obtain ⟨Xx26,qXx26,H⟩:=H
   refine Uv (v:=.pointer (some Xx26)) rfl rfl hE rfl hR (UM zr29 qXx26) (fun a w hE hR hh=>?_)
   replace H:=M.at hh H; clear hh
   obtain ⟨qz,H⟩:=H
   obtain ⟨u_27,qu_27,H⟩:=H
   refine UN rfl rfl hE hR (Z1 hE rfl rfl sz29 qz qu_27) (fun a w hE hR hh=>?_)
   replace H:=M.at hh H; clear hh
   refine KY ?_
   refine KJv hR H (fun w hR H=>?_)
   refine VG ?_
   refine KZ (fun K hK_28=>?_)
   refine KZ (fun K hK_29=>?_)
   refine KE ?_
   obtain ⟨Xx30,qXx30,H⟩:=H
   refine KD (v:=(Xx30:Sl).v) rfl rfl hE rfl (ZB hE rfl sc22 qXx30) (fun a hE=>?_)
   refine KD (v:=.int .i64 (Xx30.len:Int)) rfl rfl hE rfl (KGG hE rfl 29 un22) (fun a hE=>?_)
   refine KD (v:=.bool ((Xx30.len:Int) == 4096)) rfl rfl hE rfl (ZK hE rfl rfl ZG Yp) (fun a hE=>?_)
   refine KY ?_
   refine hK_29 _ _ ?_
   refine Z0 ((Xx30.len:Int) == 4096) hE rfl (fun hb=>?_) (fun hb=>?_)
   ·replace H:=M.ite_t hb H
    refine KZ (fun K hK_31=>?_)
    obtain ⟨Xx32,qXx32,H⟩:=H
    have hT:=Wo KLb rfl rfl
    refine Ux (fun w:World=>(fun h:Heap=>(KV h ((Xx26).add 3)=some (.int .i64 Xx32))) w.heap) [3,4] #[false,false,false,false,false] mo hR rfl rfl (fun w' e=>by rw [e]; exact qXx32) (fun w hh hR hs=>?_)
    replace H:=M.at hh H; clear hh
    refine KB (i:=0) (v:=.pointer (some ((Xx26).add 3))) #[true,false,false,false,false] rfl rfl hT (by kernel_rfl) hE rfl (KA rfl) (fun w=>KL hE rfl KJJ) (fun a hE=>?_)
    refine J4 (i:=1) (v:=.int .i64 Xx32) #[true,true,false,false,false] rfl rfl hT (by kernel_rfl) hE rfl (KA rfl) hs (fun w s=>ZB hE rfl sc3 s) (fun a hE=>?_)
    obtain ⟨u_33,qu_33,H⟩:=H
    obtain ⟨_,sA,H⟩:=H
    refine KJf (i:=2) #[true,true,true,false,false] rfl rfl hT (by kernel_rfl) rfl hE hR (KA rfl) (Zb hE rfl rfl sz22 qu_33)  (fun w' e=>by rw [e]; exact sA) (fun a w hE hR hh hs=>?_)
    replace H:=M.at hh H; clear hh
    obtain ⟨u_34,qu_34,H⟩:=H
    refine KAR (i:=3) #[true,true,true,true,false] rfl rfl hT (by kernel_rfl) rfl hE hR (KA rfl) (Zb hE rfl rfl sz3 qu_34)  (fun a w hE hR hh=>?_)
    replace H:=M.at hh H; clear hh
    obtain ⟨u_35,qu_35,H⟩:=H
    refine KAR (i:=4) #[true,true,true,true,true] rfl rfl hT (by kernel_rfl) rfl hE hR (KA rfl) (Zb hE rfl rfl sz23 qu_35)  (fun a w hE hR hh=>?_)
    replace H:=M.at hh H; clear hh
    refine Vt hT (by kernel_rfl) ?_
    refine hK_31 _ _ ?_
    refine VT ?_
    exact ⟨0,rfl,hfin 1 _ _ hR H⟩
   ·replace H:=M.ite_f hb H
    refine Jm ?_
    refine hK_28 _ _ ?_
    refine KE ?_
    obtain ⟨Xx36,qXx36,H⟩:=H
    refine KD (v:=(Xx36:Sl).v) rfl rfl hE rfl (ZB hE rfl sc22 qXx36) (fun a hE=>?_)
    obtain ⟨Xx37,qXx37,H⟩:=H
    refine KD (v:=.agg Xx37) rfl rfl hE rfl (Xk hE rfl ag29 qXx37) (fun a hE=>?_)
    obtain ⟨y_39,qy_39,H⟩:=H
    obtain ⟨Xx38,qXx38,H⟩:=H
    refine Uv (v:=(Xx38:Sl).v) rfl rfl hE rfl hR (XR hE rfl un22 sz29 zr29 rfl qy_39 qXx38) (fun a w hE hR hh=>?_)
    replace H:=M.at hh H; clear hh
    refine t_ex (fun Xx40=>(Xx40:Sl).v) rfl rfl hR (M.unbind H) (fun Q H=>KBe hE rfl rfl ap22 H) (fun Xx40 a w ea hR H=>?_)
    have hE:=Env.put_some hE rfl ea; clear ea
    obtain ⟨u_41,qu_41,H⟩:=H
    refine UN rfl rfl hE hR (Zb hE rfl rfl sz22 qu_41) (fun a w hE hR hh=>?_)
    replace H:=M.at hh H; clear hh
    refine KY ?_
    exact hfin 0 _ _ hR H
  ·skip
   replace hE:Env (⟨35,(j_42.2::[])⟩:Frm) a [(0,.string x0),(2,.pointer (some Xx2)),(3,.pointer (some Xx3)),(4,.pointer (some Xx4)),(5,.pointer (some Xx15)),(6,.pointer (some Xx17))]:=Env.cut hE (.cons rfl (.cons rfl (.cons rfl (.cons rfl (.cons rfl (.cons rfl Subs.nil))))))
   refine KB9 (fun hj=>?_) (fun hj=>?_)
   ·replace H:=M.ite_t (decide_eq_true hj) H
    refine VT ?_
    refine hret _ _ _ _ _ hE hR (M.unbind H) (fun w hR H=>?_)
    obtain ⟨Rr43,qRr43,H⟩:=H
    obtain ⟨Rr44,qRr44,H⟩:=H
    obtain ⟨Rr45,qRr45,H⟩:=H
    exact ⟨(Rr43,Rr44,Rr45),_,Zc hE rfl (RV.cell rfl sc22 qRr43 (RV.cell rfl sc3 qRr44 (RV.cell rfl sc23 qRr45 RV.nil))),rfl,H⟩
   ·replace H:=M.ite_f (decide_eq_false hj) H
    refine KEH ?_
    refine hK_18 _ _ ?_
    refine KZ (fun K hK_46=>?_)
    refine KZ (fun K hK_47=>?_)
    refine KE ?_
    refine KD (v:=.pointer (some Xx15)) rfl rfl hE rfl (KG hE rfl) (fun a hE=>?_)
    refine UO hE hR WW rfl (Ws (some Xx15)) (M.unbind H) (fun Xx48 a w ea hR H=>?_)
    have hE:=Env.put_some hE rfl ea; clear ea
    refine KY ?_
    refine hK_47 _ _ ?_
    refine Z0 Xx48 hE rfl (fun hb=>?_) (fun hb=>?_)
    ·replace H:=M.ite_t hb H
     refine KZ (fun K hK_49=>?_)
     obtain ⟨Xx50,qXx50,H⟩:=H
     obtain ⟨Xx51,qXx51,H⟩:=H
     have hT:=Wo KKG rfl rfl
     refine Ux (fun w:World=>(fun h:Heap=>(KV h ((Xx50).add 1)=some (.int .i64 Xx51))) w.heap) [5,6] #[false,false,false,false,false,false,false] mo hR rfl rfl (fun w' e=>by rw [e]; exact qXx51) (fun w hh hR hs=>?_)
     replace H:=M.at hh H; clear hh
     refine KB (i:=0) (v:=.pointer (some Xx15)) #[true,false,false,false,false,false,false] rfl rfl hT (by kernel_rfl) hE rfl (KA rfl) (fun w=>KG hE rfl) (fun a hE=>?_)
     refine KB (i:=1) (v:=.pointer (some Xx50)) #[true,true,false,false,false,false,false] rfl rfl hT (by kernel_rfl) hE rfl (KA rfl) (fun w=>KN hE (JC rfl (congrArg Value.pointer qXx50))) (fun a hE=>?_)
     refine KB (i:=2) (v:=.pointer (some ((Xx50).add 1))) #[true,true,true,false,false,false,false] rfl rfl hT (by kernel_rfl) hE rfl (KA rfl) (fun w=>KL hE rfl KDS) (fun a hE=>?_)
     refine J4 (i:=3) (v:=.int .i64 Xx51) #[true,true,true,true,false,false,false] rfl rfl hT (by kernel_rfl) hE rfl (KA rfl) hs (fun w s=>ZB hE rfl sc3 s) (fun a hE=>?_)
     obtain ⟨u_52,qu_52,H⟩:=H
     obtain ⟨_,sA,H⟩:=H
     refine KJf (i:=4) #[true,true,true,true,true,false,false] rfl rfl hT (by kernel_rfl) rfl hE hR (KA rfl) (Zb hE rfl rfl sz22 qu_52)  (fun w' e=>by rw [e]; exact sA) (fun a w hE hR hh hs=>?_)
     replace H:=M.at hh H; clear hh
     obtain ⟨u_53,qu_53,H⟩:=H
     refine KAR (i:=5) #[true,true,true,true,true,true,false] rfl rfl hT (by kernel_rfl) rfl hE hR (KA rfl) (Zb hE rfl rfl sz3 qu_53)  (fun a w hE hR hh=>?_)
     replace H:=M.at hh H; clear hh
     obtain ⟨u_54,qu_54,H⟩:=H
     refine KAR (i:=6) #[true,true,true,true,true,true,true] rfl rfl hT (by kernel_rfl) rfl hE hR (KA rfl) (Zb hE rfl rfl sz23 qu_54)  (fun a w hE hR hh=>?_)
     replace H:=M.at hh H; clear hh
     refine Vt hT (by kernel_rfl) ?_
     refine hK_49 _ _ ?_
     refine VT ?_
     refine hret _ _ _ _ _ hE hR (M.unbind H) (fun w hR H=>?_)
     obtain ⟨Rr55,qRr55,H⟩:=H
     obtain ⟨Rr56,qRr56,H⟩:=H
     obtain ⟨Rr57,qRr57,H⟩:=H
     exact ⟨(Rr55,Rr56,Rr57),_,Zc hE rfl (RV.cell rfl sc22 qRr55 (RV.cell rfl sc3 qRr56 (RV.cell rfl sc23 qRr57 RV.nil))),rfl,H⟩
    ·replace H:=M.ite_f hb H
     refine Jm ?_
     refine hK_46 _ _ ?_
     refine KZ (fun K hK_58=>?_)
     refine KE ?_
     obtain ⟨Xx59,qXx59,H⟩:=H
     refine KD (v:=(Xx59:Sl).v) rfl rfl hE rfl (ZB hE rfl sc22 qXx59) (fun a hE=>?_)
     refine KD (v:=.string x0) rfl rfl hE rfl (KG hE rfl) (fun a hE=>?_)
     refine KD (v:=.int .i64 (x0.size:Int)) rfl rfl hE rfl (Wn hE rfl un9) (fun a hE=>?_)
     obtain ⟨u_60,qu_60,H⟩:=H
     refine UN rfl rfl hE hR (Zb hE rfl rfl sz22 qu_60) (fun a w hE hR hh=>?_)
     replace H:=M.at hh H; clear hh
     obtain ⟨u_61,qu_61,H⟩:=H
     refine UN rfl rfl hE hR (Zb hE rfl rfl sz3 qu_61) (fun a w hE hR hh=>?_)
     replace H:=M.at hh H; clear hh
     obtain ⟨u_62,qu_62,H⟩:=H
     refine UN rfl rfl hE hR (Zb hE rfl rfl sz23 qu_62) (fun a w hE hR hh=>?_)
     replace H:=M.at hh H; clear hh
     refine KY ?_
     refine hK_58 _ _ ?_
     refine VT ?_
     refine hret _ _ _ _ _ hE hR (M.unbind H) (fun w hR H=>?_)
     obtain ⟨Rr63,qRr63,H⟩:=H
     obtain ⟨Rr64,qRr64,H⟩:=H
     obtain ⟨Rr65,qRr65,H⟩:=H
     exact ⟨(Rr63,Rr64,Rr65),_,Zc hE rfl (RV.cell rfl sc22 qRr63 (RV.cell rfl sc3 qRr64 (RV.cell rfl sc23 qRr65 RV.nil))),rfl,H⟩
noncomputable def KGt:CalleeS Go.Proofs.Tryz.prog:=mkC KFw KFx [.S] [.L,.I .i64,.I .i64] (fun (t:ByteArray)=>zF t) (fun (t:ByteArray)=>KGs t)
def JZ (x0:Int):M (Bool):=do
 let Xx3←M.ite (x0 == 95) (do
  M.pure true
  ) (do
  let Xx4←M.ite (decide (x0 ≥ 97)) (do
   M.pure (decide (x0≤122))
   ) (do
   M.pure false
   )
  M.pure Xx4
  )
 let Xx5←M.ite Xx3 (do
  M.pure true
  ) (do
  let Xx6←M.ite (decide (x0 ≥ 65)) (do
   M.pure (decide (x0≤90))
   ) (do
   M.pure false
   )
  M.pure Xx6
  )
 M.pure Xx5
theorem Gv (x0:Int):Ky Go.Proofs.Tryz.prog 101 #[.int .u8 x0] (fun (r:Bool)=>.bool r) (JZ x0) :=
 KQ [] [] [.B] [(0,.I .u8 x0)] .o Go.Proofs.Tryz.func101 rfl rfl ⟨rfl,trivial⟩ rfl (by kernel_rfl) (by kernel_rfl)
noncomputable def Gy:CalleeS Go.Proofs.Tryz.prog:=mkC Xt Xz [.I .u8] [.B] (fun (t:Int)=>JZ t) (fun (t:Int)=>Gv t)
def Vd (C12:ByteArray) (self1:(Int)→M (Bool)):(Int)→M (Bool):=fun s=>match s with
 | Xx11=>do
  M.ite (decide (Xx11 < (C12.size:Int))) (do
   let Xx18←ixS C12 Xx11
   let Xx19←JZ Xx18
   let Xx20←M.ite (!Xx19) (do
    let Xx21←ixS C12 Xx11
    let Xx22←M.ite (decide (Xx21 < 48)) (do
     M.pure true
     ) (do
     let Xx23←ixS C12 Xx11
     M.pure (decide (Xx23 > 57))
     )
    M.pure Xx22
    ) (do
    M.pure false
    )
   M.ite Xx20 (do
    M.pure false
    ) (do
    self1 (IntKind.wrap .i64 (Xx11+1))
    )
   ) (do
   M.pure true
   )
def Ui (x0:ByteArray):M (Bool):=do
 let Xx4←M.ite (sEq x0 ByteArray.empty) (do
  M.pure true
  ) (do
  M.pure (decide ((x0.size:Int) > 24))
  )
 let Xx5←M.ite Xx4 (do
  M.pure true
  ) (do
  let Xx6←ixS x0 0
  let Xx7←JZ Xx6
  M.pure (!Xx7)
  )
 M.ite Xx5 (do
  M.pure false
  ) (do
  M.loop (Vd x0) 0
  )
theorem qe (x0:ByteArray):Ky Go.Proofs.Tryz.prog 55 #[.string x0] (fun (r:Bool)=>.bool r) (Ui x0) :=
 KQ [Gy] [] [.B] [(0,.S x0)] (.q .o (.q .o (.q (.q .o (.b (.l [(0,.S)] [(3,.I .i64)] (fun (t:ByteArray)=>Vd t) (fun _=>.o)))) .o))) Go.Proofs.Tryz.func55 rfl rfl ⟨rfl,trivial⟩ rfl (by kernel_rfl) (by kernel_rfl)
noncomputable def qf:CalleeS Go.Proofs.Tryz.prog:=mkC NP NX [.S] [.B] (fun (t:ByteArray)=>Ui t) (fun (t:ByteArray)=>qe t)
def Ve (C5:Int) (self1:(Int)→M (Bool)):(Int)→M (Bool):=fun s=>match s with
 | Xx4=>do
  M.ite (decide (Xx4 < 11)) (do
   let Xx11←ixS (⟨#[46,40,41,44,91,93,123,125,58,61,59]⟩:ByteArray) Xx4
   M.ite (Xx11 == C5) (do
    M.pure true
    ) (do
    self1 (IntKind.wrap .i64 (Xx4+1))
    )
   ) (do
   M.pure false
   )
def Jz (x0:Int):M (Bool):=do
 M.loop (Ve x0) 0
theorem qg (x0:Int):Ky Go.Proofs.Tryz.prog 56 #[.int .u8 x0] (fun (r:Bool)=>.bool r) (Jz x0) :=
 KQ [] [] [.B] [(0,.I .u8 x0)] (.q .o (.q (.q .o (.b (.l [(0,.I .u8)] [(3,.I .i64)] (fun (t:Int)=>Ve t) (fun _=>.o)))) .o)) Go.Proofs.Tryz.func56 rfl rfl ⟨rfl,trivial⟩ rfl (by kernel_rfl) (by kernel_rfl)
noncomputable def Yj:CalleeS Go.Proofs.Tryz.prog:=mkC NR NZ [.I .u8] [.B] (fun (t:Int)=>Jz t) (fun (t:Int)=>qg t)
def ZR (C5:Addr) (Xx4:Bool):M (Int):=do
 let Xx8←M.ite (!Xx4) (do
  M.pure true
  ) (do
  let Xx9←ldI .i64 ((C5).add 3)
  M.pure (decide (Xx9 < 0))
  )
 M.ite Xx8 (do
  M.pure 150
  ) (do
  M.pure 0
  )
def UR (x0:Array Value):M (Int):=do
 let Xx2←mkB KM x0
 let Xx13←ldI .i64 ((Xx2).add 0)
 M.ite (Xx13 == 1) (do
  let Xx15←ldS ((Xx2).add 1)
  let Xx16←Ui Xx15
  let Xx17←M.ite Xx16 (do
   let Xx18←ldI .i64 ((Xx2).add 2)
   M.pure (Xx18 == 0)
   ) (do
   M.pure false
   )
  ZR Xx2 Xx17
  ) (do
  M.ite (Xx13 == 2) (do
   let Xx20←ldS ((Xx2).add 1)
   ZR Xx2 (sEq Xx20 ByteArray.empty)
   ) (do
   M.ite (Xx13 == 3) (do
    let Xx22←ldS ((Xx2).add 1)
    let Xx23←M.ite (decide ((Xx22.size:Int)≤128)) (do
     let Xx24←ldI .i64 ((Xx2).add 2)
     M.pure (Xx24 == 0)
     ) (do
     M.pure false
     )
    ZR Xx2 Xx23
    ) (do
    M.ite (Xx13 == 4) (do
     let Xx26←ldS ((Xx2).add 1)
     let Xx27←M.ite ((Xx26.size:Int) == 1) (do
      let Xx28←ldS ((Xx2).add 1)
      let Xx29←ixS Xx28 0
      let Xx30←Jz Xx29
      M.pure Xx30
      ) (do
      M.pure false
      )
     let Xx31←M.ite Xx27 (do
      let Xx32←ldI .i64 ((Xx2).add 2)
      M.pure (Xx32 == 0)
      ) (do
      M.pure false
      )
     ZR Xx2 Xx31
     ) (do
     ZR Xx2 false
     )
    )
   )
  )
theorem Ng (x0:Array Value):Ky Go.Proofs.Tryz.prog 23 #[.agg x0] (fun (r:Int)=>.int .i64 r) (UR x0) :=
 KQ [qf,Yj] [] [.I .i64] [(0,.G x0)] (.q .o (.q .o (.q .o (.j [(1,.A),(3,.B)] (fun (t:Addr × Bool)=>ZR t.1 t.2) .o)))) Go.Proofs.Tryz.func23 rfl rfl ⟨rfl,trivial⟩ rfl (by kernel_rfl) (by kernel_rfl)
noncomputable def Nh:CalleeS Go.Proofs.Tryz.prog:=mkC Gc Gq [.G] [.I .i64] (fun (t:Array Value)=>UR t) (fun (t:Array Value)=>Ng t)
def Ja (x0:Int):M (Bool):=do
 let Xx3←M.ite (decide (x0 ≥ 97)) (do
  M.pure (decide (x0≤122))
  ) (do
  M.pure false
  )
 let Xx4←M.ite Xx3 (do
  M.pure true
  ) (do
  let Xx5←M.ite (decide (x0 ≥ 65)) (do
   M.pure (decide (x0≤90))
   ) (do
   M.pure false
   )
  M.pure Xx5
  )
 let Xx6←M.ite Xx4 (do
  M.pure true
  ) (do
  M.pure (x0 == 95)
  )
 M.pure Xx6
theorem Gz (x0:Int):Ky Go.Proofs.Tryz.prog 94 #[.int .u8 x0] (fun (r:Bool)=>.bool r) (Ja x0) :=
 KQ [] [] [.B] [(0,.I .u8 x0)] .o Go.Proofs.Tryz.func94 rfl rfl ⟨rfl,trivial⟩ rfl (by kernel_rfl) (by kernel_rfl)
noncomputable def Wt:CalleeS Go.Proofs.Tryz.prog:=mkC Xv X8 [.I .u8] [.B] (fun (t:Int)=>Ja t) (fun (t:Int)=>Gz t)
def US (x0:Int):M (Bool):=do
 let Xx3←M.ite (decide (x0 ≥ 48)) (do
  M.pure (decide (x0≤57))
  ) (do
  M.pure false
  )
 M.pure Xx3
theorem Ni (x0:Int):Ky Go.Proofs.Tryz.prog 127 #[.int .u8 x0] (fun (r:Bool)=>.bool r) (US x0) :=
 KQ [] [] [.B] [(0,.I .u8 x0)] .o Go.Proofs.Tryz.func127 rfl rfl ⟨rfl,trivial⟩ rfl (by kernel_rfl) (by kernel_rfl)
noncomputable def Nj:CalleeS Go.Proofs.Tryz.prog:=mkC Gd Gr [.I .u8] [.B] (fun (t:Int)=>US t) (fun (t:Int)=>Ni t)
def Vf (C5:ByteArray) (self1:(Int)→M (Int)):(Int)→M (Int):=fun s=>match s with
 | Xx4=>do
  let Xx9←M.ite (decide (Xx4 < (C5.size:Int))) (do
   let Xx10←ixS C5 Xx4
   let Xx11←Ja Xx10
   let Xx12←M.ite Xx11 (do
    M.pure true
    ) (do
    let Xx13←ixS C5 Xx4
    let Xx14←US Xx13
    M.pure Xx14
    )
   M.pure Xx12
   ) (do
   M.pure false
   )
  M.ite Xx9 (do
   self1 (IntKind.wrap .i64 (Xx4+1))
   ) (do
   M.pure Xx4
   )
def J0 (x0:ByteArray):M (Int):=do
 M.loop (Vf x0) 0
theorem qh (x0:ByteArray):Ky Go.Proofs.Tryz.prog 95 #[.string x0] (fun (r:Int)=>.int .i64 r) (J0 x0) :=
 KQ [Nj,Wt] [] [.I .i64] [(0,.S x0)] (.q .o (.q .o (.q (.b (.l [(0,.S)] [(3,.I .i64)] (fun (t:ByteArray)=>Vf t) (fun _=>.o))) .o))) Go.Proofs.Tryz.func95 rfl rfl ⟨rfl,trivial⟩ rfl (by kernel_rfl) (by kernel_rfl)
noncomputable def qj:CalleeS Go.Proofs.Tryz.prog:=mkC NS Na [.S] [.I .i64] (fun (t:ByteArray)=>J0 t) (fun (t:ByteArray)=>qh t)
def J8 (self1:(Int)→M (Int)) (Xx14:Int):M (Int):=do
 self1 (IntKind.wrap .i64 (Xx14+1))
def U5 (C10:ByteArray) (self1:(Int)→M (Int)):(Int)→M (Int):=fun s=>match s with
 | Xx9=>do
  M.ite (decide (Xx9 < (C10.size:Int))) (do
   let Xx18←ixS C10 Xx9
   M.ite (Xx18 == 92) (do
    J8 self1 (IntKind.wrap .i64 (Xx9+1))
    ) (do
    let Xx21←ixS C10 Xx9
    M.ite (Xx21 == 39) (do
     M.pure (IntKind.wrap .i64 (Xx9+1))
     ) (do
     J8 self1 Xx9
     )
    )
   ) (do
   M.pure 0
   )
def J9 (x0:ByteArray):M (Int):=do
 let Xx4←M.ite ((x0.size:Int) == 0) (do
  M.pure true
  ) (do
  let Xx5←ixS x0 0
  M.pure (Xx5 != 39)
  )
 M.ite Xx4 (do
  M.pure 0
  ) (do
  M.loop (U5 x0) 1
  )
theorem G0 (x0:ByteArray):Ky Go.Proofs.Tryz.prog 96 #[.string x0] (fun (r:Int)=>.int .i64 r) (J9 x0) :=
 KQ [] [] [.I .i64] [(0,.S x0)] (.q .o (.q .o (.q (.q .o (.b (.l [(0,.S)] [(3,.I .i64)] (fun (t:ByteArray)=>U5 t) (fun self1=>.q .o (.q .o (.j [(0,.S),(3,.I .i64)] (fun (t:ByteArray × Int)=>J8 self1 t.2) .o)))))) .o))) Go.Proofs.Tryz.func96 rfl rfl ⟨rfl,trivial⟩ rfl (by kernel_rfl) (by kernel_rfl)
noncomputable def G8:CalleeS Go.Proofs.Tryz.prog:=mkC Xw X9 [.S] [.I .i64] (fun (t:ByteArray)=>J9 t) (fun (t:ByteArray)=>G0 t)
def ZZ (x0:Int) (x1:Int):M (Int):=do
 M.ite (decide (x0 < x1)) (do
  M.pure (-1)
  ) (do
  M.ite (decide (x0 > x1)) (do
   M.pure 1
   ) (do
   M.pure 0
   )
  )
theorem zG (x0:Int) (x1:Int):Ky Go.Proofs.Tryz.prog 117 #[.int .i64 x0,.int .i64 x1] (fun (r:Int)=>.int .i64 r) (ZZ x0 x1) :=
 KQ [] [] [.I .i64] [(0,.I .i64 x0),(1,.I .i64 x1)] .o Go.Proofs.Tryz.func117 rfl rfl ⟨rfl,rfl,trivial⟩ rfl (by kernel_rfl) (by kernel_rfl)
noncomputable def Y5:CalleeS Go.Proofs.Tryz.prog:=mkC qK qW [.I .i64,.I .i64] [.I .i64] (fun (t:Int × Int)=>ZZ t.1 t.2) (fun (t:Int × Int)=>zG t.1 t.2)
def Vg (C5:ByteArray) (C6:ByteArray) (self1:(Int)→M (Int)):(Int)→M (Int):=fun s=>match s with
 | Xx4=>do
  let Xx10←M.ite (decide (Xx4 < (C5.size:Int))) (do
   M.pure (decide (Xx4 < (C6.size:Int)))
   ) (do
   M.pure false
   )
  M.ite Xx10 (do
   let Xx13←ixS C5 Xx4
   let Xx14←ixS C6 Xx4
   M.ite (Xx13 != Xx14) (do
    let Xx16←ixS C5 Xx4
    let Xx17←ixS C6 Xx4
    let Xx18←ZZ (IntKind.wrap .i64 Xx16) (IntKind.wrap .i64 Xx17)
    M.pure Xx18
    ) (do
    self1 (IntKind.wrap .i64 (Xx4+1))
    )
   ) (do
   let Xx20←ZZ (C5.size:Int) (C6.size:Int)
   M.pure Xx20
   )
def Uj (x0:ByteArray) (x1:ByteArray):M (Int):=do
 M.loop (Vg x0 x1) 0
theorem qk (x0:ByteArray) (x1:ByteArray):Ky Go.Proofs.Tryz.prog 118 #[.string x0,.string x1] (fun (r:Int)=>.int .i64 r) (Uj x0 x1) :=
 KQ [Y5] [] [.I .i64] [(0,.S x0),(1,.S x1)] (.q .o (.q (.q .o (.b (.l [(0,.S),(1,.S)] [(5,.I .i64)] (fun (t:ByteArray × ByteArray)=>Vg t.1 t.2) (fun _=>.q .o (.q (.b (.q (.r [0,0,3,0,0,24,36] [0,0,3,0,0,24,36] [0,0,3,0,0,24,63] (.pu 0 (.pu 1 (.pu 2 (.pu 3 (.pu 4 (.pu 5 (.pu 6 (.st [0,1,2,3,4,5,6] .dn))))))))) (.q (.q (.r [0,0,3,4,0,0,48,64,136,511] [0,0,3,4,0,0,48,64,136,256] [0,0,3,7,0,0,48,112,255,511] (.pu 0 (.pu 1 (.pu 2 (.pu 3 (.pu 4 (.pu 5 (.pu 6 (.pu 7 (.st [0,1,2,3,4,5,6,7,8,9] (.on 8 (.pu 9 (.nx .dn))))))))))))) .o) .o))) .o))))) .o)) Go.Proofs.Tryz.func118 rfl rfl ⟨rfl,rfl,trivial⟩ rfl (by kernel_rfl) (by kernel_rfl)
noncomputable def ql:CalleeS Go.Proofs.Tryz.prog:=mkC NQ NY [.S,.S] [.I .i64] (fun (t:ByteArray × ByteArray)=>Uj t.1 t.2) (fun (t:ByteArray × ByteArray)=>qk t.1 t.2)
def Uq (C28:Addr) (C29:Addr) (self1:(Int)→M (Int)):(Int)→M (Int):=fun s=>match s with
 | Xx27=>do
  let Xx33←ldL ((C28).add 3)
  let Xx34←M.ite (decide (Xx27 < (Xx33.len:Int))) (do
   let Xx35←ldL ((C29).add 3)
   M.pure (decide (Xx27 < (Xx35.len:Int)))
   ) (do
   M.pure false
   )
  M.ite Xx34 (do
   let Xx38←ldL ((C28).add 3)
   let Xx39←ixL Xx38 Xx27 4
   let Xx40←ldG 4 Xx39
   let Xx41←ldL ((C29).add 3)
   let Xx42←ixL Xx41 Xx27 4
   let Xx43←ldG 4 Xx42
   let Xx44←XN Go.Proofs.Tryz.prog Ju #[.agg Xx40,.agg Xx43] (fun r:Int=>.int .i64 r)
   M.ite (Xx44 != 0) (do
    M.pure Xx44
    ) (do
    self1 (IntKind.wrap .i64 (Xx27+1))
    )
   ) (do
   let Xx48←ldL ((C28).add 3)
   let Xx49←ldL ((C29).add 3)
   let Xx50←ZZ (Xx48.len:Int) (Xx49.len:Int)
   M.pure Xx50
   )
def JJ (x0:Array Value) (x1:Array Value):M (Int):=do
 let Xx2←mkB KF x0
 let Xx3←mkB KF x1
 let Xx6←ldI .i64 ((Xx2).add 0)
 let Xx7←ldI .i64 ((Xx3).add 0)
 let Xx8←ZZ Xx6 Xx7
 M.ite (Xx8 != 0) (do
  M.pure Xx8
  ) (do
  let Xx13←ldI .i64 ((Xx2).add 1)
  let Xx14←ldI .i64 ((Xx3).add 1)
  let Xx15←ZZ Xx13 Xx14
  M.ite (Xx15 != 0) (do
   M.pure Xx15
   ) (do
   let Xx20←ldS ((Xx2).add 2)
   let Xx21←ldS ((Xx3).add 2)
   let Xx22←Uj Xx20 Xx21
   M.ite (Xx22 != 0) (do
    M.pure Xx22
    ) (do
    M.loop (Uq Xx2 Xx3) 0
    )
   )
  )
theorem WX (x0:Array Value) (x1:Array Value):Ky Go.Proofs.Tryz.prog 74 #[.agg x0,.agg x1] (fun (r:Int)=>.int .i64 r) (JJ x0 x1) :=
 KQ [Y5,ql,mkC Ju WI [.G,.G] [.I .i64] (fun (t:Array Value × Array Value)=>XN Go.Proofs.Tryz.prog Ju #[.agg t.1,.agg t.2] (fun r:Int=>.int .i64 r)) (fun (t:Array Value × Array Value)=>Va)] [] [.I .i64] [(0,.G x0),(1,.G x1)] (.q .o (.q .o (.q .o (.q .o (.q (.q .o (.b (.l [(2,.A),(3,.A)] [(8,.I .i64)] (fun (t:Addr × Addr)=>Uq t.1 t.2) (fun _=>.q .o (.q (.b (.q (.r [0,1,0,6,8,0,32,0,192,256,528,2047] [0,1,0,6,8,0,32,0,192,256,528,1024] [0,1,0,7,15,0,32,0,224,480,1023,2047] (.pu 0 (.pu 2 (.pu 5 (.pu 7 (.pu 1 (.pu 3 (.pu 4 (.pu 6 (.pu 8 (.pu 9 (.st [10,11] (.on 10 (.pu 11 (.nx .dn))))))))))))))) .o)) .o))))) .o))))) Go.Proofs.Tryz.func74 rfl rfl ⟨rfl,rfl,trivial⟩ rfl (by kernel_rfl) (by kernel_rfl)
noncomputable def GC:CalleeS Go.Proofs.Tryz.prog:=mkC Ju WI [.G,.G] [.I .i64] (fun (t:Array Value × Array Value)=>JJ t.1 t.2) (fun (t:Array Value × Array Value)=>WX t.1 t.2)
def VN (C5:Sl) (self1:(Int)→M (Bool)):(Int)→M (Bool):=fun s=>match s with
 | Xx4=>do
  M.ite (decide (Xx4 < (C5.len:Int))) (do
   let Xx11←ixL C5 (IntKind.wrap .i64 (Xx4 - 2)) 4
   let Xx12←ixL C5 Xx4 4
   let Xx13←ldG 4 Xx11
   let Xx14←ldG 4 Xx12
   let Xx15←JJ Xx13 Xx14
   M.ite (decide (Xx15 ≥ 0)) (do
    M.pure false
    ) (do
    self1 (IntKind.wrap .i64 (Xx4+2))
    )
   ) (do
   M.pure true
   )
def UT (x0:Sl):M (Bool):=do
 M.loop (VN x0) 2
theorem Nk (x0:Sl):Ky Go.Proofs.Tryz.prog 110 #[(x0:Sl).v] (fun (r:Bool)=>.bool r) (UT x0) :=
 KQ [GC] [] [.B] [(0,.L x0)] (.q .o (.q (.q .o (.b (.l [(0,.L)] [(3,.I .i64)] (fun (t:Sl)=>VN t) (fun _=>.q .o (.q (.b (.q (.r [0,0,2,5,8,0,0,96,128,272,512] [0,0,2,5,8,0,0,96,128,272,512] [0,0,2,7,15,0,0,96,224,511,1023] (.pu 0 (.pu 1 (.pu 2 (.pu 3 (.pu 5 (.pu 6 (.pu 7 (.pu 4 (.pu 8 (.st [9,10] (.on 9 (.pu 10 (.nx .dn)))))))))))))) .o)) .o))))) .o)) Go.Proofs.Tryz.func110 rfl rfl ⟨rfl,trivial⟩ rfl (by kernel_rfl) (by kernel_rfl)
noncomputable def Nl:CalleeS Go.Proofs.Tryz.prog:=mkC Gb Gp [.L] [.B] (fun (t:Sl)=>UT t) (fun (t:Sl)=>Nk t)
def UA (C24:Int) (C25:Addr) (C26:Int) (Xx23:Bool):M (Bool):=do
 M.ite Xx23 (do
  let Xx28←ldS ((C25).add 2)
  let Xx29←M.ite (sEq Xx28 ByteArray.empty) (do
   let Xx30←ldL ((C25).add 3)
   M.pure ((Xx30.len:Int) == 0)
   ) (do
   M.pure false
   )
  let Xx31←M.ite Xx29 (do
   let Xx32←ldI .i64 ((C25).add 1)
   M.pure (decide (Xx32 ≥ 1))
   ) (do
   M.pure false
   )
  let Xx33←M.ite Xx31 (do
   let Xx34←ldI .i64 ((C25).add 1)
   M.pure (decide (Xx34≤281474976710656))
   ) (do
   M.pure false
   )
  M.pure Xx33
  ) (do
  M.ite (C26 == 2) (do
   let Xx37←ldI .i64 ((C25).add 1)
   let Xx38←M.ite (Xx37 == 0) (do
    let Xx39←ldL ((C25).add 3)
    M.pure ((Xx39.len:Int) == 0)
    ) (do
    M.pure false
    )
   let Xx40←M.ite Xx38 (do
    let Xx41←ldS ((C25).add 2)
    M.pure (decide ((Xx41.size:Int)≤128))
    ) (do
    M.pure false
    )
   M.pure Xx40
   ) (do
   M.ite (C26 == 4) (do
    let Xx44←ldI .i64 ((C25).add 1)
    let Xx45←M.ite (Xx44 == 0) (do
     let Xx46←ldS ((C25).add 2)
     M.pure (sEq Xx46 ByteArray.empty)
     ) (do
     M.pure false
     )
    let Xx47←M.ite Xx45 (do
     let Xx48←ldL ((C25).add 3)
     M.pure (decide ((Xx48.len:Int)≤256))
     ) (do
     M.pure false
     )
    let Xx49←M.ite Xx47 (do
     let Xx50←ldL ((C25).add 3)
     let Xx51←XN Go.Proofs.Tryz.prog J5 #[(Xx50:Sl).v,.int .i64 C24] (fun r:Bool=>.bool r)
     M.pure Xx51
     ) (do
     M.pure false
     )
    M.pure Xx49
    ) (do
    M.ite (C26 == 5) (do
     let Xx54←ldI .i64 ((C25).add 1)
     let Xx55←M.ite (Xx54 == 0) (do
      let Xx56←ldS ((C25).add 2)
      M.pure (sEq Xx56 ByteArray.empty)
      ) (do
      M.pure false
      )
     let Xx57←M.ite Xx55 (do
      let Xx58←ldL ((C25).add 3)
      M.pure (decide ((Xx58.len:Int)≤512))
      ) (do
      M.pure false
      )
     let Xx59←M.ite Xx57 (do
      let Xx60←ldL ((C25).add 3)
      M.pure ((Int.tmod (Xx60.len:Int) 2) == 0)
      ) (do
      M.pure false
      )
     let Xx61←M.ite Xx59 (do
      let Xx62←ldL ((C25).add 3)
      let Xx63←XN Go.Proofs.Tryz.prog J5 #[(Xx62:Sl).v,.int .i64 C24] (fun r:Bool=>.bool r)
      M.pure Xx63
      ) (do
      M.pure false
      )
     let Xx64←M.ite Xx61 (do
      let Xx65←ldL ((C25).add 3)
      let Xx66←UT Xx65
      M.pure Xx66
      ) (do
      M.pure false
      )
     M.pure Xx64
     ) (do
     M.pure false
     )
    )
   )
  )
def Jo (x0:Array Value) (x1:Int):M (Bool):=do
 let Xx2←mkB KF x0
 M.ite (decide (x1 ≥ 8)) (do
  M.pure false
  ) (do
  let Xx8←ldI .i64 ((Xx2).add 0)
  M.ite (Xx8 == 1) (do
   let Xx11←ldS ((Xx2).add 2)
   let Xx12←M.ite (sEq Xx11 ByteArray.empty) (do
    let Xx13←ldL ((Xx2).add 3)
    M.pure ((Xx13.len:Int) == 0)
    ) (do
    M.pure false
    )
   M.pure Xx12
   ) (do
   M.ite (Xx8 == 3) (do
    let Xx16←ldS ((Xx2).add 2)
    let Xx17←M.ite (sEq Xx16 ByteArray.empty) (do
     let Xx18←ldL ((Xx2).add 3)
     M.pure ((Xx18.len:Int) == 0)
     ) (do
     M.pure false
     )
    let Xx19←M.ite Xx17 (do
     let Xx20←ldI .i64 ((Xx2).add 1)
     let Xx21←M.ite (Xx20 == 0) (do
      M.pure true
      ) (do
      let Xx22←ldI .i64 ((Xx2).add 1)
      M.pure (Xx22 == 1)
      )
     M.pure Xx21
     ) (do
     M.pure false
     )
    M.pure Xx19
    ) (do
    M.ite (Xx8 == 6) (do
     UA x1 Xx2 Xx8 (Xx8 == 6)
     ) (do
     UA x1 Xx2 Xx8 (Xx8 == 7)
     )
    )
   )
  )
theorem Y6 (x0:Array Value) (x1:Int):Ky Go.Proofs.Tryz.prog 70 #[.agg x0,.int .i64 x1] (fun (r:Bool)=>.bool r) (Jo x0 x1) :=
 KQ [mkC J5 qU [.L,.I .i64] [.B] (fun (t:Sl × Int)=>XN Go.Proofs.Tryz.prog J5 #[(t.1:Sl).v,.int .i64 t.2] (fun r:Bool=>.bool r)) (fun (t:Sl × Int)=>Va),Nl] [] [.B] [(0,.G x0),(1,.I .i64 x1)] (.q .o (.q .o (.q (.q .o (.b (.q .o (.q .o (.q .o (.q .o (.q .o (.j [(1,.I .i64),(2,.A),(8,.I .i64),(41,.B)] (fun (t:Int × Addr × Int × Bool)=>UA t.1 t.2.1 t.2.2.1 t.2.2.2) .o)))))))) .o))) Go.Proofs.Tryz.func70 rfl rfl ⟨rfl,rfl,trivial⟩ rfl (by kernel_rfl) (by kernel_rfl)
noncomputable def zH:CalleeS Go.Proofs.Tryz.prog:=mkC Ur Yi [.G,.I .i64] [.B] (fun (t:Array Value × Int)=>Jo t.1 t.2) (fun (t:Array Value × Int)=>Y6 t.1 t.2)
def UU (x0:Array Value):M (Int):=do
 let Xx2←mkB KF x0
 let Xx5←ldG 4 Xx2
 let Xx6←Jo Xx5 0
 M.ite (!Xx6) (do
  M.pure 20
  ) (do
  M.pure 0
  )
theorem Nm (x0:Array Value):Ky Go.Proofs.Tryz.prog 33 #[.agg x0] (fun (r:Int)=>.int .i64 r) (UU x0) :=
 KQ [zH] [] [.I .i64] [(0,.G x0)] .o Go.Proofs.Tryz.func33 rfl rfl ⟨rfl,trivial⟩ rfl (by kernel_rfl) (by kernel_rfl)
noncomputable def Nn:CalleeS Go.Proofs.Tryz.prog:=mkC GY Gl [.G] [.I .i64] (fun (t:Array Value)=>UU t) (fun (t:Array Value)=>Nm t)
def V0 (x0:Int):M (Array Value):=do
 let Xx2←mkB KF (#[.int .i64 0,.int .i64 0,.string ByteArray.empty,.slice none 0 0]:Array Value)
 M.need ((#[.int .i64 1,.int .i64 x0,.string ByteArray.empty,.slice none 0 0]:Array Value).size=4)
 stG Xx2 (#[.int .i64 1,.int .i64 x0,.string ByteArray.empty,.slice none 0 0]:Array Value)
 let Rr5←ldG 4 Xx2
 M.pure Rr5
theorem zI (x0:Int):Ky Go.Proofs.Tryz.prog 57 #[.int .i64 x0] (fun (r:Array Value)=>.agg r) (V0 x0) :=
 KQ [] [] [.G] [(0,.I .i64 x0)] .o Go.Proofs.Tryz.func57 rfl rfl ⟨rfl,trivial⟩ rfl (by kernel_rfl) (by kernel_rfl)
noncomputable def zJ:CalleeS Go.Proofs.Tryz.prog:=mkC qH qS [.I .i64] [.G] (fun (t:Int)=>V0 t) (fun (t:Int)=>zI t)
def V1 (x0:ByteArray):M (Array Value):=do
 let Xx2←mkB KF (#[.int .i64 0,.int .i64 0,.string ByteArray.empty,.slice none 0 0]:Array Value)
 M.need ((#[.int .i64 2,.int .i64 0,.string x0,.slice none 0 0]:Array Value).size=4)
 stG Xx2 (#[.int .i64 2,.int .i64 0,.string x0,.slice none 0 0]:Array Value)
 let Rr5←ldG 4 Xx2
 M.pure Rr5
theorem zK (x0:ByteArray):Ky Go.Proofs.Tryz.prog 58 #[.string x0] (fun (r:Array Value)=>.agg r) (V1 x0) :=
 KQ [] [] [.G] [(0,.S x0)] .o Go.Proofs.Tryz.func58 rfl rfl ⟨rfl,trivial⟩ rfl (by kernel_rfl) (by kernel_rfl)
noncomputable def zL:CalleeS Go.Proofs.Tryz.prog:=mkC qI qT [.S] [.G] (fun (t:ByteArray)=>V1 t) (fun (t:ByteArray)=>zK t)
def KR (x0:Option Addr) (x1:Int):M (Unit):=do
 let Xx2←nilP x0
 let Xx3←ldI .i64 ((Xx2).add 2)
 M.ite (decide (Xx3 < 0)) (do
  let Xx4←nilP x0
  stV ((Xx4).add 2) (.int .i64 x1)
  M.pure ()
  ) (do
  M.pure ()
  )
theorem Yv (x0:Option Addr) (x1:Int):Ky Go.Proofs.Tryz.prog 129 #[.pointer x0,.int .i64 x1] (fun (r:Unit)=>.tuple #[]) (KR x0 x1) :=
 KQ [] [0,4,9] [] [(0,.P x0),(1,.I .i64 x1)] .o Go.Proofs.Tryz.func129 rfl rfl ⟨rfl,rfl,trivial⟩ rfl (by kernel_rfl) (by kernel_rfl)
noncomputable def ZO:CalleeS Go.Proofs.Tryz.prog:=mkC YT YW [.P,.I .i64] [] (fun (t:Option Addr × Int)=>KR t.1 t.2) (fun (t:Option Addr × Int)=>Yv t.1 t.2)
def Zf (C4:Option Addr) (Xx3:Bool):M (Int):=do
 M.ite Xx3 (do
  M.pure 0
  ) (do
  let Xx7←nilP C4
  let Xx8←nilP C4
  let Xx9←ldS ((Xx7).add 0)
  let Xx10←ldI .i64 ((Xx8).add 1)
  let Xx11←ixS Xx9 Xx10
  M.pure Xx11
  )
def KS (x0:Option Addr):M (Int):=do
 let Xx12←nilP x0
 let Xx13←ldI .i64 ((Xx12).add 2)
 M.ite (decide (Xx13 ≥ 0)) (do
  Zf x0 true
  ) (do
  let Xx15←nilP x0
  let Xx16←nilP x0
  let Xx17←ldI .i64 ((Xx15).add 1)
  let Xx18←ldS ((Xx16).add 0)
  Zf x0 (decide (Xx17 ≥ (Xx18.size:Int)))
  )
theorem Yw (x0:Option Addr):Ky Go.Proofs.Tryz.prog 181 #[.pointer x0] (fun (r:Int)=>.int .u8 r) (KS x0) :=
 KQ [] [0,3,9,13,20,24] [.I .u8] [(0,.P x0)] (.q .o (.q (.q (.r [0,1,2,4,8,16,32,96,160,288,32,1056,2080,4128,8224,16928,32800] [0,1,2,4,8,16,32,96,160,288,32,1056,2080,4128,8224,16928,32800] [0,1,3,7,15,31,63,127,255,511,63,1087,3135,7231,15423,32767,65535] (.pu 0 (.pu 1 (.pu 2 (.pu 3 (.pu 4 (.pu 5 (.g 5 (.of 6 (.of 7 (.of 8 (.of 9 (.of 10 (.of 11 (.of 12 (.of 13 (.of 14 (.of 15 (.pu 16 (.st [4,5,6,7,8,9,10,11,12,13,14,15,16] .dn)))))))))))) (.pu 6 (.pu 7 (.pu 8 (.pu 10 (.pu 11 (.pu 12 (.pu 9 (.pu 13 (.pu 14 (.pu 15 (.pu 16 (.st [15,16] .dn)))))))))))))))))))) (.j [(0,.P),(19,.B)] (fun (t:Option Addr × Bool)=>Zf t.1 t.2) .o)) (.q (.r [0,1,2,4,0,16,32,64,136,511] [0,1,2,4,0,16,32,64,136,256] [0,1,3,7,0,16,48,112,255,511] (.pu 0 (.pu 1 (.pu 2 (.pu 4 (.pu 5 (.pu 6 (.pu 3 (.pu 7 (.pu 8 (.pu 9 (.st [8,9] .dn)))))))))))) .o))) Go.Proofs.Tryz.func181 rfl rfl ⟨rfl,trivial⟩ rfl (by kernel_rfl) (by kernel_rfl)
noncomputable def ZP:CalleeS Go.Proofs.Tryz.prog:=mkC YU YX [.P] [.I .u8] (fun (t:Option Addr)=>KS t) (fun (t:Option Addr)=>Yw t)
def Zd (x0:Int):M (Bool):=do
 let Xx3←M.ite (decide (x0 ≥ 48)) (do
  M.pure (decide (x0≤57))
  ) (do
  M.pure false
  )
 M.pure Xx3
theorem No (x0:Int):Ky Go.Proofs.Tryz.prog 182 #[.int .u8 x0] (fun (r:Bool)=>.bool r) (Zd x0) :=
 KQ [] [] [.B] [(0,.I .u8 x0)] .o Go.Proofs.Tryz.func182 rfl rfl ⟨rfl,trivial⟩ rfl (by kernel_rfl) (by kernel_rfl)
noncomputable def Vh:CalleeS Go.Proofs.Tryz.prog:=mkC Ga Gn [.I .u8] [.B] (fun (t:Int)=>Zd t) (fun (t:Int)=>No t)
def UB (x0:Bool) (x1:Int):M (Int):=do
 M.ite x0 (do
  M.pure (IntKind.wrap .i64 (IntKind.wrap .u64 (0 - x1)))
  ) (do
  M.pure (IntKind.wrap .i64 x1)
  )
theorem G9 (x0:Bool) (x1:Int):Ky Go.Proofs.Tryz.prog 229 #[.bool x0,.int .u64 x1] (fun (r:Int)=>.int .i64 r) (UB x0 x1) :=
 KQ [] [] [.I .i64] [(0,.B x0),(1,.I .u64 x1)] .o Go.Proofs.Tryz.func229 rfl rfl ⟨rfl,rfl,trivial⟩ rfl (by kernel_rfl) (by kernel_rfl)
noncomputable def NA:CalleeS Go.Proofs.Tryz.prog:=mkC Xs Xy [.B,.I .u64] [.I .i64] (fun (t:Bool × Int)=>UB t.1 t.2) (fun (t:Bool × Int)=>G9 t.1 t.2)
def VO (C38:Bool) (C39:ByteArray) (C40:Int) (self2:(Int × Int)→M (Int × Int)):(Int × Int)→M (Int × Int):=fun s=>match s with
 | (Xx36,Xx37)=>do
  M.ite (decide (Xx37 < (C39.size:Int))) (do
   let Xx46←ixS C39 Xx37
   M.ite (decide (Xx36 > (IntKind.wrap .u64 (Int.tdiv (IntKind.wrap .u64 (C40 - (IntKind.wrap .u64 (IntKind.wrap .u8 (Xx46 - 48))))) 10)))) (do
    M.pure (0,7)
    ) (do
    self2 (IntKind.wrap .u64 ((IntKind.wrap .u64 (Xx36 * 10))+(IntKind.wrap .u64 (IntKind.wrap .u8 (Xx46 - 48)))),IntKind.wrap .i64 (Xx37+1))
    )
   ) (do
   let Xx51←UB C38 Xx36
   M.pure (Xx51,0)
   )
def Je (C31:Bool) (C32:ByteArray) (Xx30:Int):M (Int × Int):=do
 M.loop (VO C31 C32 Xx30) (0,0)
def VP (C18:Bool) (C19:ByteArray) (self1:(Int)→M (Int × Int)):(Int)→M (Int × Int):=fun s=>match s with
 | Xx17=>do
  M.ite (decide (Xx17 < (C19.size:Int))) (do
   let Xx25←ixS C19 Xx17
   let Xx26←M.ite (decide (Xx25 < 48)) (do
    M.pure true
    ) (do
    let Xx27←ixS C19 Xx17
    M.pure (decide (Xx27 > 57))
    )
   M.ite Xx26 (do
    M.pure (0,10)
    ) (do
    self1 (IntKind.wrap .i64 (Xx17+1))
    )
   ) (do
   M.ite (!C18) (do
    Je C18 C19 (IntKind.wrap .u64 (9223372036854775808 - 1))
    ) (do
    Je C18 C19 9223372036854775808
    )
   )
def Jf (C7:Bool) (Xx6:ByteArray):M (Int × Int):=do
 let Xx10←M.ite (sEq Xx6 ByteArray.empty) (do
  M.pure true
  ) (do
  let Xx11←ixS Xx6 0
  let Xx12←M.ite (Xx11 == 48) (do
   let Xx13←M.ite (decide ((Xx6.size:Int) > 1)) (do
    M.pure true
    ) (do
    M.pure C7
    )
   M.pure Xx13
   ) (do
   M.pure false
   )
  M.pure Xx12
  )
 M.ite Xx10 (do
  M.pure (0,10)
  ) (do
  M.loop (VP C7 Xx6) 0
  )
def Jk (x0:ByteArray):M (Int × Int):=do
 let Xx3←M.ite (decide ((x0.size:Int) > 0)) (do
  let Xx4←ixS x0 0
  M.pure (Xx4 == 45)
  ) (do
  M.pure false
  )
 M.ite Xx3 (do
  let Xx54←slS x0 1 x0.size
  Jf Xx3 Xx54
  ) (do
  Jf Xx3 x0
  )
theorem Np (x0:ByteArray):Ky Go.Proofs.Tryz.prog 214 #[.string x0] (fun (r:Int × Int)=>.tuple #[.int .i64 r.1,.int .i64 r.2]) (Jk x0) :=
 KQ [NA] [] [.I .i64,.I .i64] [(0,.S x0)] (.q .o (.q .o (.q .o (.q .o (.j [(4,.B),(5,.S)] (fun (t:Bool × ByteArray)=>Jf t.1 t.2) (.q .o (.q (.q .o (.b (.l [(4,.B),(5,.S)] [(6,.I .i64)] (fun (t:Bool × ByteArray)=>VP t.1 t.2) (fun _=>.o)))) (.q .o (.q .o (.j [(4,.B),(5,.S),(7,.I .u64)] (fun (t:Bool × ByteArray × Int)=>Je t.1 t.2.1 t.2.2) (.q .o (.q (.q .o (.b (.l [(4,.B),(5,.S),(7,.I .u64)] [(8,.I .u64),(9,.I .i64)] (fun (t:Bool × ByteArray × Int)=>VO t.1 t.2.1 t.2.2) (fun _=>.o)))) .o)))))))))))) Go.Proofs.Tryz.func214 rfl rfl ⟨rfl,trivial⟩ rfl (by kernel_rfl) (by kernel_rfl)
noncomputable def Nq:CalleeS Go.Proofs.Tryz.prog:=mkC GX Gk [.S] [.I .i64,.I .i64] (fun (t:ByteArray)=>Jk t) (fun (t:ByteArray)=>Np t)
end Gx
namespace Gx
open Go
set_option linter.unusedVariables false
set_option maxRecDepth 100000
def Ji (C35:Option Addr) (C36:Int) (self1:(Unit)→M (Int)):(Unit)→M (Int):=fun s=>match s with
 | ()=>do
  let Xx40←KS C35
  let Xx41←Zd Xx40
  M.ite Xx41 (do
   let Xx44←nilP C35
   let Xx45←nilP C35
   let Xx46←ldS ((Xx44).add 0)
   let Xx47←ldI .i64 ((Xx45).add 1)
   let Xx48←slS Xx46 C36 (IntKind.wrap .i64 (Xx47+1))
   let Xx49←Jk Xx48
   M.ite (Xx49.2 != 0) (do
    let Xx52←nilP C35
    let Xx53←ldI .i64 ((Xx52).add 1)
    let Xx54←KR C35 Xx53
    M.pure 0
    ) (do
    let Xx56←nilP C35
    let Xx57←ldI .i64 ((Xx56).add 1)
    let Xx58←nilP C35
    stV ((Xx58).add 1) (.int .i64 (IntKind.wrap .i64 (Xx57+1)))
    self1 ()
    )
   ) (do
   let Xx61←nilP C35
   let Xx62←nilP C35
   let Xx63←ldS ((Xx61).add 0)
   let Xx64←ldI .i64 ((Xx62).add 1)
   let Xx65←slS Xx63 C36 Xx64
   let Xx66←Jk Xx65
   M.pure Xx66.1
   )
def ZE (C5:Option Addr) (C6:Int):M (Int):=do
 let Xx9←KS C5
 let Xx10←Zd Xx9
 M.ite (!Xx10) (do
  let Xx12←nilP C5
  let Xx13←ldI .i64 ((Xx12).add 1)
  let Xx14←KR C5 Xx13
  M.pure 0
  ) (do
  let Xx18←KS C5
  M.ite (Xx18 == 48) (do
   let Xx21←nilP C5
   let Xx22←ldI .i64 ((Xx21).add 1)
   M.ite (decide (Xx22 > C6)) (do
    let Xx24←nilP C5
    let Xx25←ldI .i64 ((Xx24).add 1)
    let Xx26←KR C5 Xx25
    M.pure 0
    ) (do
    let Xx29←nilP C5
    let Xx30←ldI .i64 ((Xx29).add 1)
    let Xx31←nilP C5
    stV ((Xx31).add 1) (.int .i64 (IntKind.wrap .i64 (Xx30+1)))
    M.pure 0
    )
   ) (do
   M.loop (Ji C5 C6) ()
   )
  )
def Kz (x0:Option Addr) (x1:Bool):M (Int):=do
 let Xx3←nilP x0
 let Xx4←ldI .i64 ((Xx3).add 1)
 let Xx69←M.ite x1 (do
  let Xx70←KS x0
  M.pure (Xx70 == 45)
  ) (do
  M.pure false
  )
 M.ite Xx69 (do
  let Xx71←nilP x0
  let Xx72←ldI .i64 ((Xx71).add 1)
  let Xx73←nilP x0
  stV ((Xx73).add 1) (.int .i64 (IntKind.wrap .i64 (Xx72+1)))
  ZE x0 Xx4
  ) (do
  ZE x0 Xx4
  )
theorem YH (x0:Option Addr) (x1:Bool):Ky Go.Proofs.Tryz.prog 183 #[.pointer x0,.bool x1] (fun (r:Int)=>.int .i64 r) (Kz x0 x1) :=
 KQ [ZO,ZP,Vh,Nq] [0,10,16,20,27,31,32,37,40,46,47,52,59,63,68,79,80,85,93,98] [.I .i64] [(0,.P x0),(1,.B x1)] (.q .o (.q .o (.q .o (.j [(0,.P),(5,.I .i64)] (fun (t:Option Addr × Int)=>ZE t.1 t.2) (.q .o (.q .o (.q (.b (.l [(0,.P),(5,.I .i64)] [] (fun (t:Option Addr × Int)=>Ji t.1 t.2) (fun _=>.q .o (.b (.q (.q (.r [0,1,2,4,0,0,32,64,128,256,536,1024,2048,4096,4096,16383,65535] [0,1,2,4,0,0,32,64,128,256,536,1024,2048,4096,4096,8192,16384] [0,1,3,7,0,0,32,96,224,480,1023,2047,4095,8191,8191,16383,65535] (.pu 0 (.pu 1 (.pu 2 (.pu 4 (.pu 5 (.pu 6 (.pu 7 (.pu 3 (.pu 8 (.pu 9 (.pu 10 (.st [10,11,12,13,14,15,16] (.on 11 (.pu 12 (.pu 13 (.pu 14 (.pu 15 (.pu 16 (.nx .dn)))))))))))))))))))) .o) .o))))) (.q (.r [0,1,2,4,0,0,32,64,128,280,512,1024,2048,2048,8191,32767] [0,1,2,4,0,0,32,64,128,280,512,1024,2048,2048,4096,8192] [0,1,3,7,0,0,32,96,224,511,1023,2047,4095,4095,8191,32767] (.pu 0 (.pu 1 (.pu 2 (.pu 4 (.pu 5 (.pu 6 (.pu 7 (.pu 3 (.pu 8 (.pu 9 (.st [9,10,11,12,13,14,15] (.on 10 (.pu 11 (.pu 12 (.pu 13 (.pu 14 (.pu 15 (.nx .dn))))))))))))))))))) .o)))))))) Go.Proofs.Tryz.func183 rfl rfl ⟨rfl,rfl,trivial⟩ rfl (by kernel_rfl) (by kernel_rfl)
noncomputable def YI:CalleeS Go.Proofs.Tryz.prog:=mkC Wy W5 [.P,.B] [.I .i64] (fun (t:Option Addr × Bool)=>Kz t.1 t.2) (fun (t:Option Addr × Bool)=>YH t.1 t.2)
def K9 (self1:(Int)→M (Unit)) (C11:Option Addr) (C13:Int) (Xx10:Bool):M (Unit):=do
 M.ite Xx10 (do
  let Xx15←nilP C11
  let Xx16←ldI .i64 ((Xx15).add 1)
  let Xx17←KR C11 Xx16
  M.pure ()
  ) (do
  let Xx18←nilP C11
  let Xx19←ldI .i64 ((Xx18).add 1)
  let Xx20←nilP C11
  stV ((Xx20).add 1) (.int .i64 (IntKind.wrap .i64 (Xx19+1)))
  self1 (IntKind.wrap .i64 (C13+1))
  )
def JE (C3:Option Addr) (C4:ByteArray) (self1:(Int)→M (Unit)):(Int)→M (Unit):=fun s=>match s with
 | Xx2=>do
  M.ite (decide (Xx2 < (C4.size:Int))) (do
   let Xx22←ixS C4 Xx2
   let Xx23←KS C3
   M.ite (Xx23 != Xx22) (do
    K9 self1 C3 Xx2 true
    ) (do
    let Xx25←nilP C3
    let Xx26←nilP C3
    let Xx27←ldI .i64 ((Xx25).add 1)
    let Xx28←ldS ((Xx26).add 0)
    K9 self1 C3 Xx2 (decide (Xx27 ≥ (Xx28.size:Int)))
    )
   ) (do
   M.pure ()
   )
def KO (x0:Option Addr) (x1:ByteArray):M (Unit):=do
 M.loop (JE x0 x1) 0
theorem Yx (x0:Option Addr) (x1:ByteArray):Ky Go.Proofs.Tryz.prog 185 #[.pointer x0,.string x1] (fun (r:Unit)=>.tuple #[]) (KO x0 x1) :=
 KQ [ZO,ZP] [0,11,18,22,29,30,35] [] [(0,.P x0),(1,.S x1)] (.q .o (.b (.l [(0,.P),(1,.S)] [(4,.I .i64)] (fun (t:Option Addr × ByteArray)=>JE t.1 t.2) (fun self1=>.q .o (.q (.b (.q (.q (.r [0,1,0,0,12,18,34,64,192,320,576,64,2112,4160,8256,16448,33856,65600] [0,1,0,0,12,18,32,64,192,320,576,64,2112,4160,8256,16448,33856,65600] [0,1,0,0,12,31,63,127,255,511,1023,127,2175,6271,14463,30847,65535,131071] (.pu 0 (.pu 2 (.pu 3 (.pu 4 (.st [0,1,2,3,4,5,6,7,8,9,10,11,12,13,14,15,16,17] (.on 1 (.pu 5 (.pu 6 (.g 6 (.of 7 (.of 8 (.of 9 (.of 10 (.of 11 (.of 12 (.of 13 (.of 14 (.of 15 (.of 16 (.pu 17 (.nx .dn)))))))))))) (.pu 7 (.pu 8 (.pu 9 (.pu 11 (.pu 12 (.pu 13 (.pu 10 (.pu 14 (.pu 15 (.pu 16 (.pu 17 (.st [16,17] .dn)))))))))))))))))))))) (.j [(0,.P),(1,.S),(4,.I .i64),(28,.B)] (fun (t:Option Addr × ByteArray × Int × Bool)=>K9 self1 t.1 t.2.2.1 t.2.2.2) .o)) .o)) .o))))) Go.Proofs.Tryz.func185 rfl rfl ⟨rfl,rfl,trivial⟩ rfl (by kernel_rfl) (by kernel_rfl)
noncomputable def JR:CalleeS Go.Proofs.Tryz.prog:=mkC YV YZ [.P,.S] [] (fun (t:Option Addr × ByteArray)=>KO t.1 t.2) (fun (t:Option Addr × ByteArray)=>Yx t.1 t.2)
def Jp (x0:Int):M (Int):=do
 let Xx4←Zd x0
 M.ite Xx4 (do
  M.pure (IntKind.wrap .i64 (IntKind.wrap .u8 (x0 - 48)))
  ) (do
  let Xx7←M.ite (decide (x0 ≥ 97)) (do
   M.pure (decide (x0≤102))
   ) (do
   M.pure false
   )
  M.ite Xx7 (do
   M.pure (IntKind.wrap .i64 ((IntKind.wrap .i64 (IntKind.wrap .u8 (x0 - 97)))+10))
   ) (do
   M.pure (-1)
   )
  )
theorem zM (x0:Int):Ky Go.Proofs.Tryz.prog 230 #[.int .u8 x0] (fun (r:Int)=>.int .i64 r) (Jp x0) :=
 KQ [Vh] [] [.I .i64] [(0,.I .u8 x0)] .o Go.Proofs.Tryz.func230 rfl rfl ⟨rfl,trivial⟩ rfl (by kernel_rfl) (by kernel_rfl)
noncomputable def zN:CalleeS Go.Proofs.Tryz.prog:=mkC qJ qV [.I .u8] [.I .i64] (fun (t:Int)=>Jp t) (fun (t:Int)=>zM t)
def Zg (x0:Option Addr):M (Int):=do
 let Xx3←KS x0
 let Xx6←M.ite (Xx3 == 39) (do
  M.pure true
  ) (do
  M.pure (Xx3 == 92)
  )
 M.ite Xx6 (do
  let Xx8←nilP x0
  let Xx9←ldI .i64 ((Xx8).add 1)
  let Xx10←nilP x0
  stV ((Xx10).add 1) (.int .i64 (IntKind.wrap .i64 (Xx9+1)))
  M.pure Xx3
  ) (do
  let Xx14←KO x0 (⟨#[120]⟩:ByteArray)
  let Xx16←KS x0
  let Xx17←Jp Xx16
  let Xx20←M.ite (decide (Xx17 < 0)) (do
   M.pure true
   ) (do
   let Xx21←M.ite (decide (Xx17 ≥ 2)) (do
    M.pure (decide (Xx17 < 7))
    ) (do
    M.pure false
    )
   M.pure Xx21
   )
  M.ite Xx20 (do
   let Xx23←nilP x0
   let Xx24←ldI .i64 ((Xx23).add 1)
   let Xx25←KR x0 Xx24
   M.pure 0
   ) (do
   let Xx28←nilP x0
   let Xx29←ldI .i64 ((Xx28).add 1)
   let Xx30←nilP x0
   stV ((Xx30).add 1) (.int .i64 (IntKind.wrap .i64 (Xx29+1)))
   let Xx33←KS x0
   let Xx34←Jp Xx33
   let Xx37←M.ite (decide (Xx34 < 0)) (do
    M.pure true
    ) (do
    let Xx38←M.ite (Xx17 == 7) (do
     M.pure (Xx34 != 15)
     ) (do
     M.pure false
     )
    M.pure Xx38
    )
   M.ite Xx37 (do
    let Xx40←nilP x0
    let Xx41←ldI .i64 ((Xx40).add 1)
    let Xx42←KR x0 Xx41
    M.pure 0
    ) (do
    let Xx45←nilP x0
    let Xx46←ldI .i64 ((Xx45).add 1)
    let Xx47←nilP x0
    stV ((Xx47).add 1) (.int .i64 (IntKind.wrap .i64 (Xx46+1)))
    M.pure (IntKind.wrap .u8 (IntKind.wrap .i64 ((IntKind.wrap .i64 (16 * Xx17))+Xx34)))
    )
   )
  )
theorem W6 (x0:Option Addr):Ky Go.Proofs.Tryz.prog 215 #[.pointer x0] (fun (r:Int)=>.int .u8 r) (Zg x0) :=
 KQ [ZO,ZP,JR,zN] [0,6,14,22,24,37,38,43,50,63,64,69] [.I .u8] [(0,.P x0)] .o Go.Proofs.Tryz.func215 rfl rfl ⟨rfl,trivial⟩ rfl (by kernel_rfl) (by kernel_rfl)
noncomputable def W7:CalleeS Go.Proofs.Tryz.prog:=mkC Wj Wl [.P] [.I .u8] (fun (t:Option Addr)=>Zg t) (fun (t:Option Addr)=>W6 t)
def ZC (self1:(Sl)→M (ByteArray)) (C16:Option Addr) (C17:Sl) (C18:Int) (Xx15:Bool):M (ByteArray):=do
 M.ite Xx15 (do
  let Xx19←nilP C16
  let Xx20←ldI .i64 ((Xx19).add 1)
  let Xx21←KR C16 Xx20
  self1 C17
  ) (do
  M.ite (C18 == 39) (do
   let Xx24←nilP C16
   let Xx25←ldI .i64 ((Xx24).add 1)
   let Xx26←nilP C16
   stV ((Xx26).add 1) (.int .i64 (IntKind.wrap .i64 (Xx25+1)))
   let Xx29←b2s C17
   M.pure Xx29
   ) (do
   M.ite (C18 == 92) (do
    let Xx32←nilP C16
    let Xx33←ldI .i64 ((Xx32).add 1)
    let Xx34←nilP C16
    stV ((Xx34).add 1) (.int .i64 (IntKind.wrap .i64 (Xx33+1)))
    let Xx36←Zg C16
    let Xx37←bdL Zs 1 #[.int .u8 Xx36]
    let Xx38←apL Zs 1 1 (#[.int .u8 0]:Array Value) C17 Xx37
    self1 Xx38
    ) (do
    let Xx40←nilP C16
    let Xx41←ldI .i64 ((Xx40).add 1)
    let Xx42←nilP C16
    stV ((Xx42).add 1) (.int .i64 (IntKind.wrap .i64 (Xx41+1)))
    let Xx44←bdL Zs 1 #[.int .u8 C18]
    let Xx45←apL Zs 1 1 (#[.int .u8 0]:Array Value) C17 Xx44
    self1 Xx45
    )
   )
  )
def JS (C7:Option Addr) (self1:(Sl)→M (ByteArray)):(Sl)→M (ByteArray):=fun s=>match s with
 | Xx6=>do
  let Xx11←nilP C7
  let Xx12←ldI .i64 ((Xx11).add 2)
  M.ite (decide (Xx12 < 0)) (do
   let Xx14←KS C7
   let Xx46←nilP C7
   let Xx47←nilP C7
   let Xx48←ldI .i64 ((Xx46).add 1)
   let Xx49←ldS ((Xx47).add 0)
   M.ite (decide (Xx48 ≥ (Xx49.size:Int))) (do
    ZC self1 C7 Xx6 Xx14 true
    ) (do
    M.ite (decide (Xx14 < 32)) (do
     ZC self1 C7 Xx6 Xx14 true
     ) (do
     ZC self1 C7 Xx6 Xx14 (decide (Xx14 > 126))
     )
    )
   ) (do
   M.pure ByteArray.empty
   )
def JG (x0:Option Addr):M (ByteArray):=do
 let Xx4←KO x0 (⟨#[39]⟩:ByteArray)
 M.loop (JS x0) Sl.nil
theorem Y7 (x0:Option Addr):Ky Go.Proofs.Tryz.prog 184 #[.pointer x0] (fun (r:ByteArray)=>.string r) (JG x0) :=
 KQ [ZO,ZP,JR,W7] [0,5,7,12,14,26,30,44,45,53,65,73] [.S] [(0,.P x0)] (.q .o (.q .o (.q .o (.q (.b (.l [(0,.P)] [(3,.L)] (fun (t:Option Addr)=>JS t) (fun self1=>.q .o (.b (.q .o (.b (.q (.r [0,1,2,4,0,16,32,64,128,264,512,1024,3072,5120,9216,16384,49152,81920,147456] [0,1,2,4,0,16,32,64,128,264,512,1024,3072,5120,8192,16384,49152,81920,131072] [0,1,3,7,0,16,48,112,240,511,1023,2047,4095,8191,16383,32767,65535,131071,262143] (.pu 0 (.pu 1 (.pu 2 (.pu 4 (.pu 5 (.pu 6 (.pu 3 (.pu 7 (.pu 8 (.pu 9 (.pu 10 (.g 10 (.of 11 (.of 12 (.pu 13 (.pu 14 (.of 15 (.of 16 (.pu 17 (.pu 18 (.st [9,10,11,12,13,14,15,16,17,18] .dn))))))))) (.pu 11 (.pu 12 (.pu 13 (.pu 14 (.g 14 (.of 15 (.of 16 (.pu 17 (.pu 18 (.st [9,10,11,12,13,14,15,16,17,18] .dn))))) (.pu 15 (.pu 16 (.pu 17 (.pu 18 (.st [9,10,11,12,13,14,15,16,17,18] .dn))))))))))))))))))))))) (.j [(0,.P),(3,.L),(4,.I .u8),(25,.B)] (fun (t:Option Addr × Sl × Int × Bool)=>ZC self1 t.1 t.2.1 t.2.2.1 t.2.2.2) .o)))))))) .o)))) Go.Proofs.Tryz.func184 rfl rfl ⟨rfl,trivial⟩ rfl (by kernel_rfl) (by kernel_rfl)
noncomputable def Y8:CalleeS Go.Proofs.Tryz.prog:=mkC Yr Yt [.P] [.S] (fun (t:Option Addr)=>JG t) (fun (t:Option Addr)=>Y7 t)
def J1 (x0:Bool):M (Array Value):=do
 let Xx2←mkB KF (#[.int .i64 0,.int .i64 0,.string ByteArray.empty,.slice none 0 0]:Array Value)
 M.ite x0 (do
  M.need ((#[.int .i64 3,.int .i64 1,.string ByteArray.empty,.slice none 0 0]:Array Value).size=4)
  stG Xx2 (#[.int .i64 3,.int .i64 1,.string ByteArray.empty,.slice none 0 0]:Array Value)
  let Rr7←ldG 4 Xx2
  M.pure Rr7
  ) (do
  M.need ((#[.int .i64 3,.int .i64 0,.string ByteArray.empty,.slice none 0 0]:Array Value).size=4)
  stG Xx2 (#[.int .i64 3,.int .i64 0,.string ByteArray.empty,.slice none 0 0]:Array Value)
  let Rr10←ldG 4 Xx2
  M.pure Rr10
  )
theorem qm (x0:Bool):Ky Go.Proofs.Tryz.prog 186 #[.bool x0] (fun (r:Array Value)=>.agg r) (J1 x0) :=
 KQ [] [] [.G] [(0,.B x0)] .o Go.Proofs.Tryz.func186 rfl rfl ⟨rfl,trivial⟩ rfl (by kernel_rfl) (by kernel_rfl)
noncomputable def qn:CalleeS Go.Proofs.Tryz.prog:=mkC NO NW [.B] [.G] (fun (t:Bool)=>J1 t) (fun (t:Bool)=>qm t)
def Ke (C56:Option Addr) (C57:Addr) (C58:Addr):M (Array Value):=do
 let Xx60←KO C56 (⟨#[93]⟩:ByteArray)
 let Xx62←ldG 4 C58
 M.need (Xx62.size=4)
 stG C57 Xx62
 let Rr64←ldG 4 C57
 M.pure Rr64
def ZV (x0:Option Addr) (x1:Int):M (Array Value):=do
 let Xx2←mkB KF (#[.int .i64 0,.int .i64 0,.string ByteArray.empty,.slice none 0 0]:Array Value)
 M.ite (decide (x1 ≥ 8)) (do
  let Xx6←nilP x0
  let Xx7←ldI .i64 ((Xx6).add 1)
  let Xx8←KR x0 Xx7
  M.need ((#[.int .i64 0,.int .i64 0,.string ByteArray.empty,.slice none 0 0]:Array Value).size=4)
  stG Xx2 (#[.int .i64 0,.int .i64 0,.string ByteArray.empty,.slice none 0 0]:Array Value)
  let Rr11←ldG 4 Xx2
  M.pure Rr11
  ) (do
  let Xx14←KS x0
  let Xx16←M.ite (Xx14 == 45) (do
   M.pure true
   ) (do
   let Xx17←Zd Xx14
   M.pure Xx17
   )
  M.ite Xx16 (do
   let Xx19←Kz x0 true
   let Xx20←V0 Xx19
   M.need (Xx20.size=4)
   stG Xx2 Xx20
   let Rr22←ldG 4 Xx2
   M.pure Rr22
   ) (do
   M.ite (Xx14 == 39) (do
    let Xx25←JG x0
    let Xx26←V1 Xx25
    M.need (Xx26.size=4)
    stG Xx2 Xx26
    let Rr28←ldG 4 Xx2
    M.pure Rr28
    ) (do
    M.ite (Xx14 == 116) (do
     let Xx31←KO x0 (⟨#[116,114,117,101]⟩:ByteArray)
     let Xx33←J1 true
     M.need (Xx33.size=4)
     stG Xx2 Xx33
     let Rr35←ldG 4 Xx2
     M.pure Rr35
     ) (do
     M.ite (Xx14 == 102) (do
      let Xx38←KO x0 (⟨#[102,97,108,115,101]⟩:ByteArray)
      let Xx40←J1 false
      M.need (Xx40.size=4)
      stG Xx2 Xx40
      let Rr42←ldG 4 Xx2
      M.pure Rr42
      ) (do
      let Xx44←M.ite (Xx14 == 118) (do
       M.pure true
       ) (do
       M.pure (Xx14 == 101)
       )
      M.ite Xx44 (do
       let Xx46←nilP x0
       let Xx47←ldI .i64 ((Xx46).add 1)
       let Xx48←nilP x0
       stV ((Xx48).add 1) (.int .i64 (IntKind.wrap .i64 (Xx47+1)))
       let Xx51←KO x0 (⟨#[91]⟩:ByteArray)
       let Xx53←Kz x0 true
       let Xx54←mkB KF (#[.int .i64 0,.int .i64 0,.string ByteArray.empty,.slice none 0 0]:Array Value)
       M.need ((#[.int .i64 7,.int .i64 Xx53,.string ByteArray.empty,.slice none 0 0]:Array Value).size=4)
       stG Xx54 (#[.int .i64 7,.int .i64 Xx53,.string ByteArray.empty,.slice none 0 0]:Array Value)
       M.ite (Xx14 == 118) (do
        stV ((Xx54).add 0) (.int .i64 6)
        Ke x0 Xx2 Xx54
        ) (do
        Ke x0 Xx2 Xx54
        )
       ) (do
       M.ite (Xx14 == 91) (do
        let Xx69←nilP x0
        let Xx70←ldI .i64 ((Xx69).add 1)
        let Xx71←nilP x0
        stV ((Xx71).add 1) (.int .i64 (IntKind.wrap .i64 (Xx70+1)))
        let Xx74←XN Go.Proofs.Tryz.prog JD #[.pointer x0,.int .i64 x1,.string (⟨#[44,32]⟩:ByteArray),.int .u8 93] (fun r:Sl=>(r:Sl).v)
        M.need ((#[.int .i64 4,.int .i64 0,.string ByteArray.empty,(Xx74:Sl).v]:Array Value).size=4)
        stG Xx2 (#[.int .i64 4,.int .i64 0,.string ByteArray.empty,(Xx74:Sl).v]:Array Value)
        let Rr76←ldG 4 Xx2
        M.pure Rr76
        ) (do
        M.ite (Xx14 == 123) (do
         let Xx79←nilP x0
         let Xx80←ldI .i64 ((Xx79).add 1)
         let Xx81←nilP x0
         stV ((Xx81).add 1) (.int .i64 (IntKind.wrap .i64 (Xx80+1)))
         let Xx84←XN Go.Proofs.Tryz.prog JD #[.pointer x0,.int .i64 x1,.string (⟨#[58,32]⟩:ByteArray),.int .u8 125] (fun r:Sl=>(r:Sl).v)
         M.need ((#[.int .i64 5,.int .i64 0,.string ByteArray.empty,(Xx84:Sl).v]:Array Value).size=4)
         stG Xx2 (#[.int .i64 5,.int .i64 0,.string ByteArray.empty,(Xx84:Sl).v]:Array Value)
         let Rr86←ldG 4 Xx2
         M.pure Rr86
         ) (do
         let Xx88←nilP x0
         let Xx89←ldI .i64 ((Xx88).add 1)
         let Xx90←KR x0 Xx89
         M.need ((#[.int .i64 0,.int .i64 0,.string ByteArray.empty,.slice none 0 0]:Array Value).size=4)
         stG Xx2 (#[.int .i64 0,.int .i64 0,.string ByteArray.empty,.slice none 0 0]:Array Value)
         let Rr93←ldG 4 Xx2
         M.pure Rr93
         )
        )
       )
      )
     )
    )
   )
  )
theorem VF (x0:Option Addr) (x1:Int):Ky Go.Proofs.Tryz.prog 128 #[.pointer x0,.int .i64 x1] (fun (r:Array Value)=>.agg r) (ZV x0 x1) :=
 KQ [ZO,ZP,Vh,YI,Y8,JR,qn,mkC JD YY [.P,.I .i64,.S,.I .u8] [.L] (fun (t:Option Addr × Int × ByteArray × Int)=>XN Go.Proofs.Tryz.prog JD #[.pointer t.1,.int .i64 t.2.1,.string t.2.2.1,.int .u8 t.2.2.2] (fun r:Sl=>(r:Sl).v)) (fun (t:Option Addr × Int × ByteArray × Int)=>Va),zJ,zL] [0,9,10,16,25,31,37,43,53,60,62,68,74,81,88,95,99,100] [.G] [(0,.P x0),(1,.I .i64 x1)] (.q .o (.q .o (.q (.q .o (.b (.q .o (.q .o (.q .o (.q .o (.q .o (.q .o (.q .o (.q .o (.q .o (.q (.q .o (.q .o (.q .o (.q .o (.j [(0,.P),(4,.A),(6,.A)] (fun (t:Option Addr × Addr × Addr)=>Ke t.1 t.2.1 t.2.2) .o))))) .o)))))))))))) .o))) Go.Proofs.Tryz.func128 rfl rfl ⟨rfl,rfl,trivial⟩ rfl (by kernel_rfl) (by kernel_rfl)
noncomputable def Ya:CalleeS Go.Proofs.Tryz.prog:=mkC ZY U1 [.P,.I .i64] [.G] (fun (t:Option Addr × Int)=>ZV t.1 t.2) (fun (t:Option Addr × Int)=>VF t.1 t.2)
def Z7 (C9:Addr) (C10:Option Addr) (C11:Addr):M (Array Value × Int × Int):=do
 let Xx14←nilP C10
 let Xx15←ldI .i64 ((Xx14).add 2)
 M.ite (decide (Xx15 ≥ 0)) (do
  let Xx17←nilP C10
  let Xx18←ldI .i64 ((Xx17).add 2)
  M.need ((#[.int .i64 0,.int .i64 0,.string ByteArray.empty,.slice none 0 0]:Array Value).size=4)
  stG C9 (#[.int .i64 0,.int .i64 0,.string ByteArray.empty,.slice none 0 0]:Array Value)
  chk (fun h:Heap=>(KV h ((Xx17).add 2)=some (.int .i64 Xx18)))
  let Rr20←ldG 4 C9
  M.pure (Rr20,Xx18,22)
  ) (do
  let Xx23←ldG 4 C11
  let Xx24←UU Xx23
  M.ite (Xx24 != 0) (do
   M.need ((#[.int .i64 0,.int .i64 0,.string ByteArray.empty,.slice none 0 0]:Array Value).size=4)
   stG C9 (#[.int .i64 0,.int .i64 0,.string ByteArray.empty,.slice none 0 0]:Array Value)
   let Rr27←ldG 4 C9
   M.pure (Rr27,0,20)
   ) (do
   let Xx29←ldG 4 C11
   M.need (Xx29.size=4)
   stG C9 Xx29
   let Rr31←ldG 4 C9
   M.pure (Rr31,0,0)
   )
  )
def Jl (x0:ByteArray):M (Array Value × Int × Int):=do
 let Xx2←mkB KF (#[.int .i64 0,.int .i64 0,.string ByteArray.empty,.slice none 0 0]:Array Value)
 let Xx4←mkB ZL (#[.string x0,.int .i64 0,.int .i64 (-1)]:Array Value)
 let Xx6←ZV (some Xx4) 0
 let Xx7←mkB KF (#[.int .i64 0,.int .i64 0,.string ByteArray.empty,.slice none 0 0]:Array Value)
 M.need (Xx6.size=4)
 stG Xx7 Xx6
 let Xx33←nilP (some Xx4)
 let Xx34←ldI .i64 ((Xx33).add 2)
 let Xx35←M.ite (decide (Xx34 < 0)) (do
  let Xx36←nilP (some Xx4)
  let Xx37←ldI .i64 ((Xx36).add 1)
  M.pure (decide (Xx37 < (x0.size:Int)))
  ) (do
  M.pure false
  )
 M.ite Xx35 (do
  let Xx38←nilP (some Xx4)
  let Xx39←ldI .i64 ((Xx38).add 1)
  let Xx40←KR (some Xx4) Xx39
  Z7 Xx2 (some Xx4) Xx7
  ) (do
  Z7 Xx2 (some Xx4) Xx7
  )
theorem Nr (x0:ByteArray):Ky Go.Proofs.Tryz.prog 97 #[.string x0] (fun (r:Array Value × Int × Int)=>.tuple #[.agg r.1,.int .i64 r.2.1,.int .i64 r.2.2]) (Jl x0) :=
 KQ [Ya,ZO,Nn] [5,10,12,18,26,27,32,38] [.G,.I .i64,.I .i64] [(0,.S x0)] (.q .o (.q .o (.q .o (.q .o (.j [(2,.A),(5,.P),(6,.A)] (fun (t:Addr × Option Addr × Addr)=>Z7 t.1 t.2.1 t.2.2) (.q (.q .o (.q (.q (.r [0,0,2,4,8,1,63,127] [0,0,2,4,8,1,16,0] [0,0,2,6,14,1,63,127] (.pu 0 (.pu 1 (.pu 2 (.pu 3 (.pu 4 (.st [6,7] (.on 5 (.pu 6 (.pu 7 (.nx .dn))))))))))) .o) .o)) .o)))))) Go.Proofs.Tryz.func97 rfl rfl ⟨rfl,trivial⟩ rfl (by kernel_rfl) (by kernel_rfl)
noncomputable def Ns:CalleeS Go.Proofs.Tryz.prog:=mkC GZ Gm [.S] [.G,.I .i64,.I .i64] (fun (t:ByteArray)=>Jl t) (fun (t:ByteArray)=>Nr t)
def UC (C43:ByteArray) (C44:Addr) (Xx42:Int):M (Array Value × Int):=do
 let Xx46←slS C43 Xx42 C43.size
 let Xx47←J0 Xx46
 let Xx49←slS C43 0 (IntKind.wrap .i64 (Xx42+Xx47))
 let Xx50←Jl Xx49
 let Xx51←mkB KF (#[.int .i64 0,.int .i64 0,.string ByteArray.empty,.slice none 0 0]:Array Value)
 M.need (Xx50.1.size=4)
 stG Xx51 Xx50.1
 let Xx55←M.ite (Xx47 == 0) (do
  M.pure true
  ) (do
  M.pure (Xx50.2.2 != 0)
  )
 let Xx56←M.ite Xx55 (do
  M.pure true
  ) (do
  let Xx57←ldI .i64 ((Xx51).add 0)
  M.pure (Xx57 != 1)
  )
 M.ite Xx56 (do
  M.need ((#[.int .i64 0,.string ByteArray.empty,.int .i64 0,.int .i64 0]:Array Value).size=4)
  stG C44 (#[.int .i64 0,.string ByteArray.empty,.int .i64 0,.int .i64 0]:Array Value)
  let Rr60←ldG 4 C44
  M.pure (Rr60,0)
  ) (do
  let Xx62←ldI .i64 ((Xx51).add 1)
  M.need ((#[.int .i64 2,.string ByteArray.empty,.int .i64 Xx62,.int .i64 0]:Array Value).size=4)
  stG C44 (#[.int .i64 2,.string ByteArray.empty,.int .i64 Xx62,.int .i64 0]:Array Value)
  let Rr64←ldG 4 C44
  M.pure (Rr64,IntKind.wrap .i64 (Xx42+Xx47))
  )
def U6 (x0:ByteArray):M (Array Value × Int):=do
 let Xx2←mkB KM (#[.int .i64 0,.string ByteArray.empty,.int .i64 0,.int .i64 0]:Array Value)
 let Xx5←ixS x0 0
 let Xx6←Jz Xx5
 M.ite Xx6 (do
  let Xx8←slS x0 0 1
  M.need ((#[.int .i64 4,.string Xx8,.int .i64 0,.int .i64 0]:Array Value).size=4)
  stG Xx2 (#[.int .i64 4,.string Xx8,.int .i64 0,.int .i64 0]:Array Value)
  let Rr10←ldG 4 Xx2
  M.pure (Rr10,1)
  ) (do
  let Xx13←ixS x0 0
  let Xx14←Ja Xx13
  M.ite Xx14 (do
   let Xx16←J0 x0
   let Xx18←slS x0 0 Xx16
   M.need ((#[.int .i64 1,.string Xx18,.int .i64 0,.int .i64 0]:Array Value).size=4)
   stG Xx2 (#[.int .i64 1,.string Xx18,.int .i64 0,.int .i64 0]:Array Value)
   let Rr20←ldG 4 Xx2
   M.pure (Rr20,Xx16)
   ) (do
   let Xx23←J9 x0
   M.ite (decide (Xx23 > 0)) (do
    let Xx26←slS x0 0 Xx23
    let Xx27←Jl Xx26
    let Xx28←mkB KF (#[.int .i64 0,.int .i64 0,.string ByteArray.empty,.slice none 0 0]:Array Value)
    M.need (Xx27.1.size=4)
    stG Xx28 Xx27.1
    let Xx32←M.ite (Xx27.2.2 != 0) (do
     M.pure true
     ) (do
     let Xx33←ldI .i64 ((Xx28).add 0)
     M.pure (Xx33 != 2)
     )
    M.ite Xx32 (do
     M.need ((#[.int .i64 0,.string ByteArray.empty,.int .i64 0,.int .i64 0]:Array Value).size=4)
     stG Xx2 (#[.int .i64 0,.string ByteArray.empty,.int .i64 0,.int .i64 0]:Array Value)
     let Rr36←ldG 4 Xx2
     M.pure (Rr36,0)
     ) (do
     let Xx38←ldS ((Xx28).add 2)
     M.need ((#[.int .i64 3,.string Xx38,.int .i64 0,.int .i64 0]:Array Value).size=4)
     stG Xx2 (#[.int .i64 3,.string Xx38,.int .i64 0,.int .i64 0]:Array Value)
     let Rr40←ldG 4 Xx2
     M.pure (Rr40,Xx23)
     )
    ) (do
    let Xx66←ixS x0 0
    M.ite (Xx66 == 45) (do
     UC x0 Xx2 1
     ) (do
     UC x0 Xx2 0
     )
    )
   )
  )
theorem zO (x0:ByteArray):Ky Go.Proofs.Tryz.prog 48 #[.string x0] (fun (r:Array Value × Int)=>.tuple #[.agg r.1,.int .i64 r.2]) (U6 x0) :=
 KQ [Yj,Wt,qj,G8,Ns] [] [.G,.I .i64] [(0,.S x0)] (.q .o (.q .o (.q .o (.q .o (.q .o (.q .o (.j [(0,.S),(2,.A),(9,.I .i64)] (fun (t:ByteArray × Addr × Int)=>UC t.1 t.2.1 t.2.2) .o))))))) Go.Proofs.Tryz.func48 rfl rfl ⟨rfl,trivial⟩ rfl (by kernel_rfl) (by kernel_rfl)
noncomputable def zP:CalleeS Go.Proofs.Tryz.prog:=mkC qL qX [.S] [.G,.I .i64] (fun (t:ByteArray)=>U6 t) (fun (t:ByteArray)=>zO t)
def VQ (self1:(Sl × Int)→M (Sl × Int)) (C11:ByteArray) (C12:Int) (C13:Sl) (self2:(Int)→M (Sl × Int)):(Int)→M (Sl × Int):=fun s=>match s with
 | Xx10=>do
  let Xx17←M.ite (decide (Xx10 < (C11.size:Int))) (do
   let Xx18←ixS C11 Xx10
   let Xx19←M.ite (Xx18 == 32) (do
    M.pure true
    ) (do
    let Xx20←ixS C11 Xx10
    M.pure (Xx20 == 10)
    )
   M.pure Xx19
   ) (do
   M.pure false
   )
  M.ite Xx17 (do
   self2 (IntKind.wrap .i64 (Xx10+1))
   ) (do
   let Xx23←M.ite (Xx10 == (C11.size:Int)) (do
    M.pure true
    ) (do
    M.pure ((C13.len:Int) == C12)
    )
   M.ite Xx23 (do
    M.pure (C13,Xx10)
    ) (do
    let Xx26←slS C11 Xx10 C11.size
    let Xx27←U6 Xx26
    let Xx28←mkB KM (#[.int .i64 0,.string ByteArray.empty,.int .i64 0,.int .i64 0]:Array Value)
    M.need (Xx27.1.size=4)
    stG Xx28 Xx27.1
    stV ((Xx28).add 3) (.int .i64 Xx10)
    let Xx34←M.ite (Xx27.2 == 0) (do
     M.pure true
     ) (do
     let Xx35←ldG 4 Xx28
     let Xx36←UR Xx35
     M.pure (Xx36 != 0)
     )
    M.ite Xx34 (do
     M.pure (C13,Xx10)
     ) (do
     let Xx39←ldG 4 Xx28
     let y_41←GV 4 1 (#[.int .i64 0,.string ByteArray.empty,.int .i64 0,.int .i64 0]:Array Value) [(0,.agg Xx39)]
     let Xx40←bdL KM 1 y_41
     let Xx42←apL KM 4 40 (#[.int .i64 0,.string ByteArray.empty,.int .i64 0,.int .i64 0]:Array Value) C13 Xx40
     self1 (Xx42,IntKind.wrap .i64 (Xx10+Xx27.2))
     )
    )
   )
def VR (C6:ByteArray) (C7:Int) (self1:(Sl × Int)→M (Sl × Int)):(Sl × Int)→M (Sl × Int):=fun s=>match s with
 | (Xx4,Xx5)=>do
  M.loop (VQ self1 C6 C7 Xx4) Xx5
def UV (x0:ByteArray) (x1:Int):M (Sl × Int):=do
 M.loop (VR x0 x1) (Sl.nil,0)
theorem Nt (x0:ByteArray) (x1:Int):Ky Go.Proofs.Tryz.prog 47 #[.string x0,.int .i64 x1] (fun (r:Sl × Int)=>.tuple #[(r.1:Sl).v,.int .i64 r.2]) (UV x0 x1) :=
 KQ [Nh,zP] [] [.L,.I .i64] [(0,.S x0),(1,.I .i64 x1)] (.q .o (.q .o (.q .o (.b (.l [(0,.S),(1,.I .i64)] [(6,.L),(7,.I .i64)] (fun (t:ByteArray × Int)=>VR t.1 t.2) (fun self1=>.b (.q (.b (.l [(0,.S),(1,.I .i64),(6,.L)] [(7,.I .i64)] (fun (t:ByteArray × Int × Sl)=>VQ self1 t.1 t.2.1 t.2.2) (fun _=>.o))) .o))))))) Go.Proofs.Tryz.func47 rfl rfl ⟨rfl,rfl,trivial⟩ rfl (by kernel_rfl) (by kernel_rfl)
noncomputable def Nu:CalleeS Go.Proofs.Tryz.prog:=mkC Ge Gt [.S,.I .i64] [.L,.I .i64] (fun (t:ByteArray × Int)=>UV t.1 t.2) (fun (t:ByteArray × Int)=>Nt t.1 t.2)
def VB :M (Bool):=do
 let Xx3←zF (⟨#[103,46,86,40,49,41]⟩:ByteArray)
 let Xx5←M.ite ((Xx3.1.len:Int) == 6) (do
  let Xx6←ixL Xx3.1 4 4
  let Xx7←ldG 4 Xx6
  let Xx8←eqS [.I .i64,.S,.I .i64,.I .i64] Xx7 (#[.int .i64 2,.string ByteArray.empty,.int .i64 1,.int .i64 4]:Array Value)
  M.pure Xx8
  ) (do
  M.pure false
  )
 let Xx9←M.ite Xx5 (do
  M.pure (Xx3.2.1 == 6)
  ) (do
  M.pure false
  )
 let Xx10←M.ite Xx9 (do
  M.pure (Xx3.2.2 == 0)
  ) (do
  M.pure false
  )
 M.pure Xx10
theorem Nv :Ky Go.Proofs.Tryz.prog 15 #[] (fun (r:Bool)=>.bool r) (VB ) :=
 KQ [KGt] [] [.B] [] .o Go.Proofs.Tryz.func15 rfl rfl trivial rfl (by kernel_rfl) (by kernel_rfl)
def Zi (C8:Sl) (C9:Sl) (C10:Int) (self1:(Int)→M (Bool)):(Int)→M (Bool):=fun s=>match s with
 | Xx7=>do
  M.ite (decide (Xx7 < C10)) (do
   let Xx17←ixL C8 Xx7 4
   let Xx18←ixL C9 Xx7 4
   let Xx19←ldG 4 Xx17
   let Xx20←ldG 4 Xx18
   let Xx21←eqS [.I .i64,.S,.I .i64,.I .i64] Xx19 Xx20
   M.ite (!Xx21) (do
    M.pure false
    ) (do
    self1 (IntKind.wrap .i64 (Xx7+1))
    )
   ) (do
   M.pure true
   )
def K8 (x0:Sl) (x1:Sl):M (Bool):=do
 M.ite ((x0.len:Int) != (x1.len:Int)) (do
  M.pure false
  ) (do
  M.loop (Zi x0 x1 (x0.len:Int)) 0
  )
theorem Jj (x0:Sl) (x1:Sl):Ky Go.Proofs.Tryz.prog 16 #[(x0:Sl).v,(x1:Sl).v] (fun (r:Bool)=>.bool r) (K8 x0 x1) :=
 KQ [] [] [.B] [(0,.L x0),(1,.L x1)] (.q .o (.q .o (.q (.q .o (.b (.l [(0,.L),(1,.L),(12,.I .i64)] [(13,.I .i64)] (fun (t:Sl × Sl × Int)=>Zi t.1 t.2.1 t.2.2) (fun _=>.q .o (.q .o (.q (.b (.q .o (.q (.r [0,0,3,4,0,0,48,64,136] [0,0,3,4,0,0,48,64,136] [0,0,3,7,0,0,48,112,255] (.pu 0 (.pu 1 (.pu 2 (.pu 4 (.pu 5 (.pu 6 (.pu 3 (.pu 7 (.pu 8 (.st [8] .dn))))))))))) .o))) .o)))))) .o))) Go.Proofs.Tryz.func16 rfl rfl ⟨rfl,rfl,trivial⟩ rfl (by kernel_rfl) (by kernel_rfl)
def Us (x0:ByteArray):M (Sl):=do
 M.ite (decide ((x0.size:Int) > 16384)) (do
  M.pure Sl.nil
  ) (do
  let Xx6←UV x0 4096
  M.pure Xx6.1
  )
theorem NB (x0:ByteArray):Ky Go.Proofs.Tryz.prog 17 #[.string x0] (fun (r:Sl)=>(r:Sl).v) (Us x0) :=
 KQ [Nu] [] [.L] [(0,.S x0)] .o Go.Proofs.Tryz.func17 rfl rfl ⟨rfl,trivial⟩ rfl (by kernel_rfl) (by kernel_rfl)
def Jq (C10:Addr) (xm_9:List Nat):M (Sl):=do
 let Xx12←ldL C10
 let _←shut xm_9
 M.pure Xx12
def Jr (C14:Addr) (C15:Addr) (lp1:Nat):(Array Value)→M Nat:=fun x=>match x with
 | Xx16=>do
  let Xx17←mkB KM (#[.int .i64 0,.string ByteArray.empty,.int .i64 0,.int .i64 0]:Array Value)
  M.need (Xx16.size=4)
  stG Xx17 Xx16
  let _←beg lp1
  let Xx21←ldL C15
  let Xx22←ldI .i64 C14
  M.ite (decide ((Xx21.len:Int) ≥ Xx22)) (do
   M.pure 1
   ) (do
   let Xx23←ldL C15
   let Xx24←ldG 4 Xx17
   let y_26←GV 4 1 (#[.int .i64 0,.string ByteArray.empty,.int .i64 0,.int .i64 0]:Array Value) [(0,.agg Xx24)]
   let Xx25←bdL KM 1 y_26
   let Xx27←apL KM 4 40 (#[.int .i64 0,.string ByteArray.empty,.int .i64 0,.int .i64 0]:Array Value) Xx23 Xx25
   stV C15 ((Xx27:Sl).v)
   M.pure 0
   )
def Jc (x0:Value) (x1:Int):M (Sl):=do
 let Xx2←mkB YD #[.int .i64 x1]
 let Xx5←isNF x0
 M.ite Xx5 (do
  let _←shut ([])
  M.pure Sl.nil
  ) (do
  let Xx8←mkB JT (#[.slice none 0 0]:Array Value)
  let j_29←rgF Go.Proofs.Tryz.prog (fun x:Array Value=>[.agg x]) [.exit 0] (Jr Xx2 Xx8) x0
  M.ite (decide (j_29.1=1)) (do
   Jq Xx8 (j_29.2::[])
   ) (do
   Jq Xx8 (j_29.2::[])
   )
  )
theorem Yk (x0:Value) (x1:Int):Ky Go.Proofs.Tryz.prog 18 #[x0,.int .i64 x1] (fun (r:Sl)=>(r:Sl).v) (Jc x0 x1):=by
 refine KAZ [(0,x0),(1,.int .i64 x1)] Go.Proofs.Tryz.func18 rfl rfl (Nat.le_of_ble_eq_true rfl) (VI ⟨rfl,rfl,trivial⟩) (fun w0 w Q R a hret hE hR H=>?_)
 unfold Jc at H
 refine KZ (fun K hK_1=>?_)
 refine KE ?_
 obtain ⟨Xx2,qXx2,H⟩:=H
 refine Uv (v:=.pointer (some Xx2)) rfl rfl hE rfl hR (KFf hE rfl qXx2) (fun a w hE hR hh=>?_)
 replace H:=M.at hh H; clear hh
 refine KD (v:=(Sl.nil:Sl).v) rfl rfl hE rfl (Ka hE rfl) (fun a hE=>?_)
 refine KY ?_
 refine hK_1 _ _ ?_
 refine KZ (fun K hK_3=>?_)
 refine KZ (fun K hK_4=>?_)
 refine KE ?_
 refine KD (v:=x0) rfl rfl hE rfl (KG hE rfl) (fun a hE=>?_)
 obtain ⟨Xx5,qXx5,H⟩:=H
 refine KD (v:=.bool Xx5) rfl rfl hE rfl (ZK hE rfl rfl (g_fn qXx5) (KJD KMb qXx5)) (fun a hE=>?_)
 refine KY ?_
 refine hK_4 _ _ ?_
 refine Z0 Xx5 hE rfl (fun hb=>?_) (fun hb=>?_)
 ·replace H:=M.ite_t hb H
  refine KZ (fun K hK_6=>?_)
  refine KE ?_
  refine KD (v:=(Sl.nil:Sl).v) rfl rfl hE rfl (Ka hE rfl) (fun a hE=>?_)
  refine KY ?_
  refine hK_6 _ _ ?_
  refine VT ?_
  refine hret _ _ _ _ _ hE hR (M.unbind H) (fun w hR H=>?_)
  exact ⟨Sl.nil,_,Zc hE rfl (RV.tmp rfl RV.nil),rfl,H⟩
 ·replace H:=M.ite_f hb H
  refine Jm ?_
  refine hK_3 _ _ ?_
  refine KZ (fun K hK_7=>?_)
  refine KE ?_
  obtain ⟨Xx8,qXx8,H⟩:=H
  refine Uv (v:=.pointer (some Xx8)) rfl rfl hE rfl hR (UM zr22 qXx8) (fun a w hE hR hh=>?_)
  replace H:=M.at hh H; clear hh
  refine KY ?_
  refine hK_7 _ _ ?_
  refine Z6 (fun a w=>∃ (xm_9:List Nat),Env (⟨20,xm_9⟩:Frm) a [(5,.pointer (some Xx8))]∧Rest w0 w∧(Jq Xx8 xm_9).wp w.heap Q) ?_ ?_
  ·rintro a w ⟨xm_9,hE,hR,H⟩
   unfold Jq at H
   refine KZ (fun K hK_11=>?_)
   refine KE ?_
   obtain ⟨Xx12,qXx12,H⟩:=H
   refine KD (v:=(Xx12:Sl).v) rfl rfl hE rfl (ZB hE rfl sc22 qXx12) (fun a hE=>?_)
   refine KD (v:=(Xx12:Sl).v) rfl rfl hE rfl (Ka hE rfl) (fun a hE=>?_)
   refine KY ?_
   refine hK_11 _ _ ?_
   refine VT ?_
   refine hret _ _ _ _ _ hE hR (M.unbind H) (fun w hR H=>?_)
   exact ⟨Xx12,_,Zc hE rfl (RV.tmp rfl RV.nil),rfl,H⟩
  ·skip
   refine KZ (fun K hK_13=>?_)
   refine KE ?_
   refine KD (v:=x0) rfl rfl hE rfl (KG hE rfl) (fun a hE=>?_)
   refine KY ?_
   refine hK_13 _ _ ?_
   refine VG ?_
   refine KCA (js:=[.exit 0]) (enc:=(fun x:Array Value=>[.agg x])) (Y:=(Jr Xx2 Xx8)) hE hR rfl (fun x=>rfl) rfl (M.unbind H) (fun lp1 Xx16 Q w0 Rr hfin a w hE hR H=>?_) (fun j_29 a w hE hR H=>?_)
   ·skip
    replace hE:Env (⟨20,[]⟩:Frm) a [(3,.pointer (some Xx2)),(5,.pointer (some Xx8)),(10,.agg Xx16)]:=Env.cut hE (.cons rfl (.cons rfl (.cons rfl Subs.nil)))
    replace H:(Jr Xx2 Xx8 lp1 Xx16).wp w.heap Q:=H
    unfold Jr at H
    refine KE ?_
    obtain ⟨Xx17,qXx17,H⟩:=H
    refine Uv (v:=.pointer (some Xx17)) rfl rfl hE rfl hR (UM zr29 qXx17) (fun a w hE hR hh=>?_)
    replace H:=M.at hh H; clear hh
    obtain ⟨qz,H⟩:=H
    obtain ⟨u_18,qu_18,H⟩:=H
    refine UN rfl rfl hE hR (Z1 hE rfl rfl sz29 qz qu_18) (fun a w hE hR hh=>?_)
    replace H:=M.at hh H; clear hh
    refine KY ?_
    refine KJv hR H (fun w hR H=>?_)
    refine VG ?_
    refine KZ (fun K hK_19=>?_)
    refine KZ (fun K hK_20=>?_)
    refine KE ?_
    obtain ⟨Xx21,qXx21,H⟩:=H
    refine KD (v:=(Xx21:Sl).v) rfl rfl hE rfl (ZB hE rfl sc22 qXx21) (fun a hE=>?_)
    refine KD (v:=.int .i64 (Xx21.len:Int)) rfl rfl hE rfl (KGG hE rfl 29 un22) (fun a hE=>?_)
    obtain ⟨Xx22,qXx22,H⟩:=H
    refine KD (v:=.int .i64 Xx22) rfl rfl hE rfl (ZB hE rfl sc3 qXx22) (fun a hE=>?_)
    refine KD (v:=.bool (decide ((Xx21.len:Int) ≥ Xx22))) rfl rfl hE rfl (ZK hE rfl rfl ZG zw) (fun a hE=>?_)
    refine KY ?_
    refine hK_20 _ _ ?_
    refine Z0 (decide ((Xx21.len:Int) ≥ Xx22)) hE rfl (fun hb=>?_) (fun hb=>?_)
    ·replace H:=M.ite_t hb H
     refine KAJ ?_
     refine Xu.ne rfl ?_
     exact ⟨0,rfl,hfin 1 _ _ hR H⟩
    ·replace H:=M.ite_f hb H
     refine Jm ?_
     refine hK_19 _ _ ?_
     refine KE ?_
     obtain ⟨Xx23,qXx23,H⟩:=H
     refine KD (v:=(Xx23:Sl).v) rfl rfl hE rfl (ZB hE rfl sc22 qXx23) (fun a hE=>?_)
     obtain ⟨Xx24,qXx24,H⟩:=H
     refine KD (v:=.agg Xx24) rfl rfl hE rfl (Xk hE rfl ag29 qXx24) (fun a hE=>?_)
     obtain ⟨y_26,qy_26,H⟩:=H
     obtain ⟨Xx25,qXx25,H⟩:=H
     refine Uv (v:=(Xx25:Sl).v) rfl rfl hE rfl hR (XR hE rfl un22 sz29 zr29 rfl qy_26 qXx25) (fun a w hE hR hh=>?_)
     replace H:=M.at hh H; clear hh
     refine t_ex (fun Xx27=>(Xx27:Sl).v) rfl rfl hR (M.unbind H) (fun Q H=>KBe hE rfl rfl ap22 H) (fun Xx27 a w ea hR H=>?_)
     have hE:=Env.put_some hE rfl ea; clear ea
     obtain ⟨u_28,qu_28,H⟩:=H
     refine UN rfl rfl hE hR (Zb hE rfl rfl sz22 qu_28) (fun a w hE hR hh=>?_)
     replace H:=M.at hh H; clear hh
     refine KY ?_
     exact hfin 0 _ _ hR H
   ·skip
    replace hE:Env (⟨20,(j_29.2::[])⟩:Frm) a [(3,.pointer (some Xx2)),(4,(Sl.nil:Sl).v),(5,.pointer (some Xx8))]:=Env.cut hE (.cons rfl (.cons rfl (.cons rfl Subs.nil)))
    refine KB9 (fun hj=>?_) (fun hj=>?_)
    ·replace H:=M.ite_t (decide_eq_true hj) H
     refine KAJ ?_
     refine Xu.same ?_
     exact ⟨(j_29.2::[]),hE.cut (.cons rfl Subs.nil),hR,H⟩
    ·replace H:=M.ite_f (decide_eq_false hj) H
     refine KEH ?_
     exact ⟨(j_29.2::[]),hE.cut (.cons rfl Subs.nil),hR,H⟩
def Y9 (x0:ByteArray):M (Value):=do
 let Xx2←mkB KGq #[.string x0]
 M.pure (Value.func (.func YC) #[] #[.pointer (some Xx2)])
theorem zn (x0:ByteArray):Ky Go.Proofs.Tryz.prog 19 #[.string x0] (fun (r:Value)=>r) (Y9 x0) :=
 KQ [] [] [.V] [(0,.S x0)] .o Go.Proofs.Tryz.func19 rfl rfl ⟨rfl,trivial⟩ rfl (by kernel_rfl) (by kernel_rfl)
end Gx
namespace Gx
open Go
set_option linter.unusedVariables false
set_option maxRecDepth 100000
def Ze (Xx4:Bool):M (Bool):=do
 M.pure Xx4
noncomputable def KLc:Array Oper:=KFj Go.Proofs.Tryz.f4 2
def KLd:List (List Nat):=[[],[0,0],[1],[2,1,1],[3,3,1],[1],[4,5,4,1],[1,6],[7,6],[8],[9,8,8],[8],[11,8],[10,12,10,8],[8],[8],[15,8],[8],[17,8],[16,18,8],[14,19,8],[13,20,13,8],[8,21],[22,21,0,1,2,3,4,5,6,7,8,9,10,11,12,13,14,15,16,17,18,19,20,21,22]]
def KLe:List (List Nat):=[[],[0],[1],[1,2],[1,3],[1],[1,4,5],[1,6],[7],[8],[8,9],[8],[8,11],[8,10,12],[8],[8],[8,15],[8],[8,17],[8,16,18],[8,14,19],[8,13,20],[8,21],[22]]
def KLf:List (List Nat):=[[],[0],[0,1],[0,1,2],[0,1,2,3],[0,1],[0,1,2,3,4,5],[0,1,2,3,4,5,6],[0,1,2,3,4,5,6,7],[0,1,2,3,4,5,6,7,8],[0,1,2,3,4,5,6,7,8,9],[0,1,2,3,4,5,6,7,8],[0,1,2,3,4,5,6,7,8,11],[0,1,2,3,4,5,6,7,8,9,10,11,12],[0,1,2,3,4,5,6,7,8],[0,1,2,3,4,5,6,7,8],[0,1,2,3,4,5,6,7,8,15],[0,1,2,3,4,5,6,7,8],[0,1,2,3,4,5,6,7,8,17],[0,1,2,3,4,5,6,7,8,15,16,17,18],[0,1,2,3,4,5,6,7,8,14,15,16,17,18,19],[0,1,2,3,4,5,6,7,8,9,10,11,12,13,14,15,16,17,18,19,20],[0,1,2,3,4,5,6,7,8,9,10,11,12,13,14,15,16,17,18,19,20,21],[0,1,2,3,4,5,6,7,8,9,10,11,12,13,14,15,16,17,18,19,20,21,22]]
theorem KMe:KAP Go.Proofs.Tryz.f4 2 KLd KLe KLf=true:=by kernel_rfl
theorem KLg:KB6 24 KLd KLe KLf [0,1,2,6,10,2,50,66,192,256,768,256,2304,5376,256,256,33024,256,131328,327936,540928,1057024,2097408,8388607] [0,1,2,6,10,2,50,66,128,256,768,256,2304,5376,256,256,33024,256,131328,327936,540928,1057024,2097408,4194304] [0,1,3,7,15,3,63,127,255,511,1023,511,2559,8191,511,511,33279,511,131583,492031,1032703,2097151,4194303,8388607]=true:=by kernel_rfl
def UI (x0:ByteArray) (x1:Int):M (Bool):=do
 let Xx3←Us x0
 let Xx5←VB
 M.ite Xx5 (do
  let Xx7←Y9 x0
  let Xx8←Jc Xx7 16384
  let Xx9←K8 Xx8 Xx3
  M.ite Xx9 (do
   let Xx11←slL Xx3 0 (iMin (Xx3.len:Int) (IntKind.wrap .i64 x1)) 4
   let Xx12←Y9 x0
   let Xx13←Jc Xx12 (IntKind.wrap .i64 x1)
   let Xx14←K8 Xx13 Xx11
   Ze Xx14
   ) (do
   Ze false
   )
  ) (do
  Ze false
  )
theorem Xg (x0:ByteArray) (x1:Int):Ky Go.Proofs.Tryz.prog 4 #[.string x0,.int .u8 x1] (fun (r:Bool)=>.bool r) (UI x0 x1):=by
 refine KBw [(0,.string x0),(1,.int .u8 x1)] Go.Proofs.Tryz.func4 rfl rfl (Nat.le_of_ble_eq_true rfl) (VI ⟨rfl,rfl,trivial⟩) (fun w0 w Q R a hret hE hR H=>?_)
 unfold UI at H
 refine KZ (fun K hK_1=>?_)
 refine KE ?_
 refine KD (v:=.bool false) rfl rfl hE rfl (Ka hE rfl) (fun a hE=>?_)
 refine KY ?_
 refine hK_1 _ _ ?_
 refine KZ (fun K hK_2=>?_)
 refine KE ?_
 refine KD (v:=.string x0) rfl rfl hE rfl (KG hE rfl) (fun a hE=>?_)
 refine UO hE hR X7 rfl (NB x0) (M.unbind H) (fun Xx3 a w ea hR H=>?_)
 have hE:=Env.put_some hE rfl ea; clear ea
 refine KD (v:=(Xx3:Sl).v) rfl rfl hE rfl (Ka hE rfl) (fun a hE=>?_)
 refine KY ?_
 refine hK_2 _ _ ?_
 refine Z6 (fun a w=>∃ (Xx4:Bool),Env (⟨31,[]⟩:Frm) a [(4,.bool Xx4)]∧Rest w0 w∧(Ze Xx4).wp w.heap Q) ?_ ?_
 ·rintro a w ⟨Xx4,hE,hR,H⟩
  unfold Ze at H
  refine VT ?_
  exact hret _ _ _ Xx4 _ hE hR (Zc hE rfl (RV.tmp rfl RV.nil)) rfl H
 ·skip
  refine Y0 (rops:=KLc) (by kernel_rfl) ?_
  have hT:Tab KLc _ _ _:=Wo KMe rfl (by kernel_rfl)
  have hM:=TabM.of KLg
  refine Ux (m:=24) (fun w:World=>(fun h:Heap=>True) w.heap) [0,1,2,3,4,5,6,7,8,9,10,11,12,13,14,15,16,17,18,19,20,21,22,23] (unb 24 0) mo hR (by kernel_rfl) (by kernel_rfl) (fun w' e=>by rw [e]; exact trivial) (fun w hh hR hs=>?_)
  replace H:=M.at hh H; clear hh
  refine XQ (i:=0) (unb 24 1) rfl rfl rfl hT (oneM hM (by kernel_rfl)) rfl hE hR (KA rfl) Gj rfl (Nv ) (M.unbind H) (fun Xx5 a w ea hR H=>?_)
  have hE:=Env.put_some hE rfl ea; clear ea
  rcases Ub Xx5 with hb_6 | hb_6
  ·replace H:=M.ite_t hb_6 H
   refine KB (i:=1) (v:=.bool Xx5) (unb 24 3) rfl rfl hT (anyM hM (by kernel_rfl)) hE rfl (KA rfl) (fun w=>KG hE rfl) (fun a hE=>?_)
   have hE:=hE.reb 9 Xx5 true hb_6 rfl
   replace hE:=hE.cut (l':=[(0,.string x0),(1,.int .u8 x1),(4,.bool false),(5,(Xx3:Sl).v),(9,.bool true)]) (.cons rfl (.cons rfl (.cons rfl (.cons rfl (.cons rfl Subs.nil)))))
   refine KB (i:=2) (v:=.string x0) (unb 24 7) rfl rfl hT (anyM hM (by kernel_rfl)) hE rfl (KP rfl hE rfl rfl rfl) (fun w=>KG hE rfl) (fun a hE=>?_)
   refine KB (i:=5) (v:=(Xx3:Sl).v) (unb 24 39) rfl rfl hT (anyM hM (by kernel_rfl)) hE rfl (KP rfl hE rfl rfl rfl) (fun w=>KG hE rfl) (fun a hE=>?_)
   refine XQ (i:=3) (unb 24 47) rfl rfl rfl hT (oneM hM (by kernel_rfl)) rfl hE hR (KP rfl hE rfl rfl rfl) qR rfl (zn x0) (M.unbind H) (fun Xx7 a w ea hR H=>?_)
   have hE:=Env.put_some hE rfl ea; clear ea
   refine XQ (i:=4) (unb 24 63) rfl rfl rfl hT (oneM hM (by kernel_rfl)) rfl hE hR (KP rfl hE rfl rfl rfl) YF rfl (Yk Xx7 16384) (M.unbind H) (fun Xx8 a w ea hR H=>?_)
   have hE:=Env.put_some hE rfl ea; clear ea
   refine XQ (i:=6) (unb 24 127) rfl rfl rfl hT (oneM hM (by kernel_rfl)) rfl hE hR (KP rfl hE rfl rfl rfl) Jd rfl (Jj Xx8 Xx3) (M.unbind H) (fun Xx9 a w ea hR H=>?_)
   have hE:=Env.put_some hE rfl ea; clear ea
   rcases Ub Xx9 with hb_10 | hb_10
   ·replace H:=M.ite_t hb_10 H
    obtain ⟨Xx11,qXx11,H⟩:=H
    refine KB (i:=7) (v:=.bool Xx9) (unb 24 255) rfl rfl hT (anyM hM (by kernel_rfl)) hE rfl (KA rfl) (fun w=>JQ hE rfl rfl) (fun a hE=>?_)
    refine KB (i:=8) (v:=.bool Xx9) (unb 24 511) rfl rfl hT (anyM hM (by kernel_rfl)) hE rfl (KA rfl) (fun w=>KG hE rfl) (fun a hE=>?_)
    have hE:=hE.reb 16 Xx9 true hb_10 rfl
    replace hE:=hE.cut (l':=[(0,.string x0),(1,.int .u8 x1),(4,.bool false),(5,(Xx3:Sl).v),(16,.bool true)]) (.cons rfl (.cons rfl (.cons rfl (.cons rfl (.cons rfl Subs.nil)))))
    refine KB (i:=9) (v:=.string x0) (unb 24 1023) rfl rfl hT (anyM hM (by kernel_rfl)) hE rfl (KP rfl hE rfl rfl rfl) (fun w=>KG hE rfl) (fun a hE=>?_)
    refine KB (i:=11) (v:=.int .u8 x1) (unb 24 3071) rfl rfl hT (anyM hM (by kernel_rfl)) hE rfl (KP rfl hE rfl rfl rfl) (fun w=>KG hE rfl) (fun a hE=>?_)
    refine KB (i:=12) (v:=.int .i64 (IntKind.wrap .i64 x1)) (unb 24 7167) rfl rfl hT (anyM hM (by kernel_rfl)) hE rfl (KP rfl hE rfl rfl rfl) (fun w=>KBz hE rfl un5 un3) (fun a hE=>?_)
    refine KB (i:=14) (v:=(Xx3:Sl).v) (unb 24 23551) rfl rfl hT (anyM hM (by kernel_rfl)) hE rfl (KP rfl hE rfl rfl rfl) (fun w=>KG hE rfl) (fun a hE=>?_)
    refine KB (i:=15) (v:=(Xx3:Sl).v) (unb 24 56319) rfl rfl hT (anyM hM (by kernel_rfl)) hE rfl (KP rfl hE rfl rfl rfl) (fun w=>KG hE rfl) (fun a hE=>?_)
    refine KB (i:=16) (v:=.int .i64 (Xx3.len:Int)) (unb 24 121855) rfl rfl hT (anyM hM (by kernel_rfl)) hE rfl (KP rfl hE rfl rfl rfl) (fun w=>KGG hE rfl 29 un22) (fun a hE=>?_)
    refine KB (i:=17) (v:=.int .u8 x1) (unb 24 252927) rfl rfl hT (anyM hM (by kernel_rfl)) hE rfl (KP rfl hE rfl rfl rfl) (fun w=>KG hE rfl) (fun a hE=>?_)
    refine KB (i:=18) (v:=.int .i64 (IntKind.wrap .i64 x1)) (unb 24 515071) rfl rfl hT (anyM hM (by kernel_rfl)) hE rfl (KP rfl hE rfl rfl rfl) (fun w=>KBz hE rfl un5 un3) (fun a hE=>?_)
    refine KB (i:=19) (v:=.int .i64 (iMin (Xx3.len:Int) (IntKind.wrap .i64 x1))) (unb 24 1039359) rfl rfl hT (anyM hM (by kernel_rfl)) hE rfl (KP rfl hE rfl rfl rfl) (fun w=>KK2 hE rfl rfl) (fun a hE=>?_)
    refine KB (i:=20) (v:=(Xx11:Sl).v) (unb 24 2087935) rfl rfl hT (anyM hM (by kernel_rfl)) hE rfl (KP rfl hE rfl rfl rfl) (fun w=>KBb hE rfl rfl un22 sz29 qXx11) (fun a hE=>?_)
    refine XQ (i:=10) (unb 24 2088959) rfl rfl rfl hT (oneM hM (by kernel_rfl)) rfl hE hR (KP rfl hE rfl rfl rfl) qR rfl (zn x0) (M.unbind H) (fun Xx12 a w ea hR H=>?_)
    have hE:=Env.put_some hE rfl ea; clear ea
    refine XQ (i:=13) (unb 24 2097151) rfl rfl rfl hT (oneM hM (by kernel_rfl)) rfl hE hR (KP rfl hE rfl rfl rfl) YF rfl (Yk Xx12 (IntKind.wrap .i64 x1)) (M.unbind H) (fun Xx13 a w ea hR H=>?_)
    have hE:=Env.put_some hE rfl ea; clear ea
    refine XQ (i:=21) (unb 24 4194303) rfl rfl rfl hT (oneM hM (by kernel_rfl)) rfl hE hR (KP rfl hE rfl rfl rfl) Jd rfl (Jj Xx13 Xx11) (M.unbind H) (fun Xx14 a w ea hR H=>?_)
    have hE:=Env.put_some hE rfl ea; clear ea
    refine KB (i:=22) (v:=.bool Xx14) (unb 24 8388607) rfl rfl hT (anyM hM (by kernel_rfl)) hE rfl (KA rfl) (fun w=>JQ hE rfl rfl) (fun a hE=>?_)
    refine KB (i:=23) (v:=.bool Xx14) (unb 24 16777215) rfl rfl hT (anyM hM (by kernel_rfl)) hE rfl (KA rfl) (fun w=>Ka hE rfl) (fun a hE=>?_)
    refine Vt hT (GU hM (by kernel_rfl)) ?_
    exact ⟨Xx14,hE.cut (.cons rfl Subs.nil),hR,H⟩
   ·replace H:=M.ite_f hb_10 H
    refine KB (i:=7) (v:=.bool Xx9) (unb 24 255) rfl rfl hT (anyM hM (by kernel_rfl)) hE rfl (KA rfl) (fun w=>JQ hE rfl rfl) (fun a hE=>?_)
    refine KB (i:=8) (v:=.bool Xx9) (unb 24 511) rfl rfl hT (anyM hM (by kernel_rfl)) hE rfl (KA rfl) (fun w=>KG hE rfl) (fun a hE=>?_)
    have hE:=hE.reb 16 Xx9 false hb_10 rfl
    replace hE:=hE.cut (l':=[(0,.string x0),(1,.int .u8 x1),(4,.bool false),(5,(Xx3:Sl).v),(16,.bool false)]) (.cons rfl (.cons rfl (.cons rfl (.cons rfl (.cons rfl Subs.nil)))))
    refine Yf [(9,some 17),(10,some 18),(11,some 19),(12,some 20),(13,some 21),(14,some 22),(15,some 23),(16,some 24),(17,some 25),(18,some 26),(19,some 27),(20,some 28),(21,some 29)] 2 hT hM hE (by kernel_rfl) (m':=4194303) (by kernel_rfl) (fun a hE=>?_)
    refine KB (i:=22) (v:=.bool false) (unb 24 8388607) rfl rfl hT (anyM hM (by kernel_rfl)) hE rfl (KA rfl) (fun w=>Zr hE rfl rfl) (fun a hE=>?_)
    refine KB (i:=23) (v:=.bool false) (unb 24 16777215) rfl rfl hT (anyM hM (by kernel_rfl)) hE rfl (KA rfl) (fun w=>Ka hE rfl) (fun a hE=>?_)
    refine Vt hT (GU hM (by kernel_rfl)) ?_
    exact ⟨false,hE.cut (.cons rfl Subs.nil),hR,H⟩
  ·replace H:=M.ite_f hb_6 H
   refine KB (i:=1) (v:=.bool Xx5) (unb 24 3) rfl rfl hT (anyM hM (by kernel_rfl)) hE rfl (KA rfl) (fun w=>KG hE rfl) (fun a hE=>?_)
   have hE:=hE.reb 9 Xx5 false hb_6 rfl
   replace hE:=hE.cut (l':=[(0,.string x0),(1,.int .u8 x1),(4,.bool false),(5,(Xx3:Sl).v),(9,.bool false)]) (.cons rfl (.cons rfl (.cons rfl (.cons rfl (.cons rfl Subs.nil)))))
   refine Yf [(2,some 10),(3,some 11),(4,some 12),(5,some 13),(6,some 14)] 17 hT hM hE (by kernel_rfl) (m':=127) (by kernel_rfl) (fun a hE=>?_)
   refine KB (i:=7) (v:=.bool false) (unb 24 255) rfl rfl hT (anyM hM (by kernel_rfl)) hE rfl (KA rfl) (fun w=>Zr hE rfl rfl) (fun a hE=>?_)
   refine KB (i:=8) (v:=.bool false) (unb 24 511) rfl rfl hT (anyM hM (by kernel_rfl)) hE rfl (KA rfl) (fun w=>KG hE rfl) (fun a hE=>?_)
   refine Yf [(9,some 17),(10,some 18),(11,some 19),(12,some 20),(13,some 21),(14,some 22),(15,some 23),(16,some 24),(17,some 25),(18,some 26),(19,some 27),(20,some 28),(21,some 29)] 2 hT hM hE (by kernel_rfl) (m':=4194303) (by kernel_rfl) (fun a hE=>?_)
   refine KB (i:=22) (v:=.bool false) (unb 24 8388607) rfl rfl hT (anyM hM (by kernel_rfl)) hE rfl (KA rfl) (fun w=>Zr hE rfl rfl) (fun a hE=>?_)
   refine KB (i:=23) (v:=.bool false) (unb 24 16777215) rfl rfl hT (anyM hM (by kernel_rfl)) hE rfl (KA rfl) (fun w=>Ka hE rfl) (fun a hE=>?_)
   refine Vt hT (GU hM (by kernel_rfl)) ?_
   exact ⟨false,hE.cut (.cons rfl Subs.nil),hR,H⟩
def XA (x0:ByteArray):M (Bool):=do
 let Xx4←M.ite (sEq x0 ByteArray.empty) (do
  M.pure true
  ) (do
  M.pure (decide ((x0.size:Int) > 24))
  )
 let Xx5←M.ite Xx4 (do
  M.pure true
  ) (do
  let Xx6←ixS x0 0
  let Xx7←M.ite (decide (Xx6 ≥ 48)) (do
   let Xx8←ixS x0 0
   M.pure (decide (Xx8≤57))
   ) (do
   M.pure false
   )
  M.pure Xx7
  )
 M.ite Xx5 (do
  M.pure false
  ) (do
  let Xx11←Vn x0 (⟨#[97,98,99,100,101,102,103,104,105,106,107,108,109,110,111,112,113,114,115,116,117,118,119,120,121,122,65,66,67,68,69,70,71,72,73,74,75,76,77,78,79,80,81,82,83,84,85,86,87,88,89,90,48,49,50,51,52,53,54,55,56,57,95]⟩:ByteArray)
  M.pure (sEq Xx11 ByteArray.empty)
  )
theorem KDU (x0:ByteArray):Ky Go.Proofs.Tryz.prog 53 #[.string x0] (fun (r:Bool)=>.bool r) (XA x0) :=
 KQ [mkC KAd KAh [.S,.S] [.S] (fun (t:ByteArray × ByteArray)=>Vn t.1 t.2) (fun (t:ByteArray × ByteArray)=>KBQ t.1 t.2)] [] [.B] [(0,.S x0)] .o Go.Proofs.Tryz.func53 rfl rfl ⟨rfl,trivial⟩ rfl (by kernel_rfl) (by kernel_rfl)
noncomputable def KDV:CalleeS Go.Proofs.Tryz.prog:=mkC KCM KCR [.S] [.B] (fun (t:ByteArray)=>XA t) (fun (t:ByteArray)=>KDU t)
def Zt (x0:ByteArray) (x1:Int):M (Int):=do
 let Xx3←ZM x0 x1
 M.pure Xx3
theorem Vi (x0:ByteArray) (x1:Int):Ky Go.Proofs.Tryz.prog 100 #[.string x0,.int .u8 x1] (fun (r:Int)=>.int .i64 r) (Zt x0 x1) :=
 KQ [mkC Vw Vy [.S,.I .u8] [.I .i64] (fun (t:ByteArray × Int)=>ZM t.1 t.2) (fun (t:ByteArray × Int)=>WH t.1 t.2)] [] [.I .i64] [(0,.S x0),(1,.I .u8 x1)] .o Go.Proofs.Tryz.func100 rfl rfl ⟨rfl,rfl,trivial⟩ rfl (by kernel_rfl) (by kernel_rfl)
noncomputable def Nw:CalleeS Go.Proofs.Tryz.prog:=mkC Gg VL [.S,.I .u8] [.I .i64] (fun (t:ByteArray × Int)=>Zt t.1 t.2) (fun (t:ByteArray × Int)=>Vi t.1 t.2)
def YB (x0:Int):M (Bool):=do
 let Xx3←Zt (⟨#[46,40,41,44,91,93,123,125,58,61,59]⟩:ByteArray) x0
 M.pure (decide (Xx3 ≥ 0))
theorem KDW (x0:Int):Ky Go.Proofs.Tryz.prog 54 #[.int .u8 x0] (fun (r:Bool)=>.bool r) (YB x0) :=
 KQ [Nw] [] [.B] [(0,.I .u8 x0)] .o Go.Proofs.Tryz.func54 rfl rfl ⟨rfl,trivial⟩ rfl (by kernel_rfl) (by kernel_rfl)
noncomputable def zo:CalleeS Go.Proofs.Tryz.prog:=mkC KCK KCP [.I .u8] [.B] (fun (t:Int)=>YB t) (fun (t:Int)=>KDW t)
def Ua (Xx12:Bool):M (Int):=do
 M.ite (!Xx12) (do
  M.pure 150
  ) (do
  M.pure 0
  )
def GD (x0:Array Value):M (Int):=do
 let Xx2←mkB KM x0
 let Xx5←ldI .i64 ((Xx2).add 3)
 let Xx6←M.ite (decide (Xx5 < 0)) (do
  M.pure true
  ) (do
  let Xx7←ldI .i64 ((Xx2).add 2)
  let Xx8←M.ite (Xx7 != 0) (do
   let Xx9←ldI .i64 ((Xx2).add 0)
   M.pure (Xx9 != 2)
   ) (do
   M.pure false
   )
  M.pure Xx8
  )
 M.ite Xx6 (do
  M.pure 150
  ) (do
  let Xx18←ldI .i64 ((Xx2).add 0)
  M.ite (Xx18 == 1) (do
   let Xx20←ldS ((Xx2).add 1)
   let Xx21←XA Xx20
   Ua Xx21
   ) (do
   M.ite (Xx18 == 2) (do
    let Xx23←ldS ((Xx2).add 1)
    Ua (sEq Xx23 ByteArray.empty)
    ) (do
    M.ite (Xx18 == 3) (do
     let Xx25←ldS ((Xx2).add 1)
     Ua (decide ((Xx25.size:Int)≤128))
     ) (do
     M.ite (Xx18 == 4) (do
      let Xx27←ldS ((Xx2).add 1)
      let Xx28←M.ite ((Xx27.size:Int) == 1) (do
       let Xx29←ldS ((Xx2).add 1)
       let Xx30←ixS Xx29 0
       let Xx31←YB Xx30
       M.pure Xx31
       ) (do
       M.pure false
       )
      Ua Xx28
      ) (do
      Ua false
      )
     )
    )
   )
  )
theorem KEQ (x0:Array Value):Ky Go.Proofs.Tryz.prog 22 #[.agg x0] (fun (r:Int)=>.int .i64 r) (GD x0) :=
 KQ [KDV,zo] [] [.I .i64] [(0,.G x0)] (.q .o (.q .o (.q .o (.q .o (.j [(3,.B)] (fun (t:Bool)=>Ua t) .o))))) Go.Proofs.Tryz.func22 rfl rfl ⟨rfl,trivial⟩ rfl (by kernel_rfl) (by kernel_rfl)
def V7 (C14:Addr) (C15:Addr) (lp1:Nat):(Array Value)→M Nat:=fun x=>match x with
 | Xx16=>do
  let Xx17←mkB KM (#[.int .i64 0,.string ByteArray.empty,.int .i64 0,.int .i64 0]:Array Value)
  M.need (Xx16.size=4)
  stG Xx17 Xx16
  let _←beg lp1
  let Xx21←ldI .i64 C15
  let Xx22←M.ite (Xx21 == 0) (do
   M.pure true
   ) (do
   let Xx23←ldV C14
   let Xx24←ldG 4 Xx17
   let Xx25←Vu Go.Proofs.Tryz.prog (fun r:Bool=>.bool r) Xx23 [.agg Xx24]
   M.pure (!Xx25)
   )
  M.ite Xx22 (do
   M.pure 1
   ) (do
   let Xx26←ldI .i64 C15
   stV C15 (.int .i64 (IntKind.wrap .i64 (Xx26 - 1)))
   M.pure 0
   )
def GE (x0:Value) (x1:Addr):M (Unit):=do
 let Xx2←mkB KGp (Value.cells x0)
 let Xx5←ldS x1
 M.ite (decide ((Xx5.size:Int) > 16384)) (do
  let _←shut ([])
  M.pure ()
  ) (do
  let Xx7←ldS x1
  let Xx8←mkB Ys (#[.string Xx7,.int .i64 0]:Array Value)
  let Xx10←mkB YD (#[.int .i64 0]:Array Value)
  stV Xx10 (.int .i64 4096)
  let Xx13←U3 (some Xx8)
  let j_28←rgF Go.Proofs.Tryz.prog (fun x:Array Value=>[.agg x]) [.ret] (V7 Xx2 Xx10) Xx13
  M.ite (decide (j_28.1=1)) (do
   let _←shut (j_28.2::[])
   M.pure ()
   ) (do
   let _←shut (j_28.2::[])
   M.pure ()
   )
  )
theorem KBR (x0:Value) (x1:Addr):Ky Go.Proofs.Tryz.prog 49 #[x0,.pointer (some x1)] (fun (r:Unit)=>.tuple #[]) (GE x0 x1):=by
 refine KAZ [(0,x0),(1,.pointer (some x1))] Go.Proofs.Tryz.func49 rfl rfl (Nat.le_of_ble_eq_true rfl) (VI ⟨rfl,rfl,trivial⟩) (fun w0 w Q R a hret hE hR H=>?_)
 unfold GE at H
 refine KZ (fun K hK_1=>?_)
 refine KE ?_
 obtain ⟨Xx2,qXx2,H⟩:=H
 refine Uv (v:=.pointer (some Xx2)) rfl rfl hE rfl hR (KFf hE rfl qXx2) (fun a w hE hR hh=>?_)
 replace H:=M.at hh H; clear hh
 refine KY ?_
 refine hK_1 _ _ ?_
 refine KZ (fun K hK_3=>?_)
 refine KZ (fun K hK_4=>?_)
 refine KE ?_
 obtain ⟨Xx5,qXx5,H⟩:=H
 refine KD (v:=.string Xx5) rfl rfl hE rfl (ZB hE rfl sc9 qXx5) (fun a hE=>?_)
 refine KD (v:=.int .i64 (Xx5.size:Int)) rfl rfl hE rfl (Wn hE rfl un9) (fun a hE=>?_)
 refine KD (v:=.bool (decide ((Xx5.size:Int) > 16384))) rfl rfl hE rfl (ZK hE rfl rfl ZG KB0) (fun a hE=>?_)
 refine KY ?_
 refine hK_4 _ _ ?_
 refine Z0 (decide ((Xx5.size:Int) > 16384)) hE rfl (fun hb=>?_) (fun hb=>?_)
 ·replace H:=M.ite_t hb H
  refine VT ?_
  refine hret _ _ _ _ _ hE hR (M.unbind H) (fun w hR H=>?_)
  exact ⟨(),_,Zc hE rfl RV.nil,rfl,H⟩
 ·replace H:=M.ite_f hb H
  refine Jm ?_
  refine hK_3 _ _ ?_
  refine KZ (fun K hK_6=>?_)
  refine KE ?_
  obtain ⟨Xx7,qXx7,H⟩:=H
  refine KD (v:=.string Xx7) rfl rfl hE rfl (ZB hE rfl sc9 qXx7) (fun a hE=>?_)
  refine KD (v:=.agg (#[.string Xx7,.int .i64 0]:Array Value)) rfl rfl hE rfl (Yq hE rfl zr70 pl70 (by rfl)) (fun a hE=>?_)
  obtain ⟨Xx8,qXx8,H⟩:=H
  refine Uv (v:=.pointer (some Xx8)) rfl rfl hE rfl hR (KFf hE rfl qXx8) (fun a w hE hR hh=>?_)
  replace H:=M.at hh H; clear hh
  refine KD (v:=.pointer (some Xx8)) rfl rfl hE rfl (Ka hE rfl) (fun a hE=>?_)
  refine KY ?_
  refine hK_6 _ _ ?_
  refine KZ (fun K hK_9=>?_)
  refine KE ?_
  obtain ⟨Xx10,qXx10,H⟩:=H
  refine Uv (v:=.pointer (some Xx10)) rfl rfl hE rfl hR (UM zr3 qXx10) (fun a w hE hR hh=>?_)
  replace H:=M.at hh H; clear hh
  obtain ⟨u_11,qu_11,H⟩:=H
  refine UN rfl rfl hE hR (Zb hE rfl rfl sz3 qu_11) (fun a w hE hR hh=>?_)
  replace H:=M.at hh H; clear hh
  refine KY ?_
  refine hK_9 _ _ ?_
  refine KZ (fun K hK_12=>?_)
  refine KE ?_
  refine KD (v:=.pointer (some Xx8)) rfl rfl hE rfl (KG hE rfl) (fun a hE=>?_)
  refine UO hE hR Yh rfl (Y4 (some Xx8)) (M.unbind H) (fun Xx13 a w ea hR H=>?_)
  have hE:=Env.put_some hE rfl ea; clear ea
  refine KY ?_
  refine hK_12 _ _ ?_
  refine VG ?_
  refine KCA (js:=[.ret]) (enc:=(fun x:Array Value=>[.agg x])) (Y:=(V7 Xx2 Xx10)) hE hR rfl (fun x=>rfl) rfl (M.unbind H) (fun lp1 Xx16 Q w0 Rr hfin a w hE hR H=>?_) (fun j_28 a w hE hR H=>?_)
  ·skip
   replace hE:Env (⟨25,[]⟩:Frm) a [(2,.pointer (some Xx2)),(4,.pointer (some Xx10)),(14,.agg Xx16)]:=Env.cut hE (.cons rfl (.cons rfl (.cons rfl Subs.nil)))
   replace H:(V7 Xx2 Xx10 lp1 Xx16).wp w.heap Q:=H
   unfold V7 at H
   refine KE ?_
   obtain ⟨Xx17,qXx17,H⟩:=H
   refine Uv (v:=.pointer (some Xx17)) rfl rfl hE rfl hR (UM zr29 qXx17) (fun a w hE hR hh=>?_)
   replace H:=M.at hh H; clear hh
   obtain ⟨qz,H⟩:=H
   obtain ⟨u_18,qu_18,H⟩:=H
   refine UN rfl rfl hE hR (Z1 hE rfl rfl sz29 qz qu_18) (fun a w hE hR hh=>?_)
   replace H:=M.at hh H; clear hh
   refine KY ?_
   refine KJv hR H (fun w hR H=>?_)
   refine VG ?_
   refine KZ (fun K hK_19=>?_)
   refine KZ (fun K hK_20=>?_)
   refine KE ?_
   obtain ⟨Xx21,qXx21,H⟩:=H
   refine KD (v:=.int .i64 Xx21) rfl rfl hE rfl (ZB hE rfl sc3 qXx21) (fun a hE=>?_)
   refine KD (v:=.bool (Xx21 == 0)) rfl rfl hE rfl (ZK hE rfl rfl ZG Yp) (fun a hE=>?_)
   refine KD (v:=.bool (Xx21 == 0)) rfl rfl hE rfl (KG hE rfl) (fun a hE=>?_)
   refine KB1 (n:=(⟨25,[]⟩:Frm)) (w0:=w0) 5 (fun Xx22:Bool=>[(4,.pointer (some Xx10)),(22,.bool Xx22)]) (M.unbind H) (fun Kr hKr H=>?_) ?_
   ·rcases Ub (Xx21 == 0) with hb | hb
    ·replace H:=M.ite_t hb H
     have hE:=hE.reb 17 (Xx21 == 0) true hb rfl
     refine YS rfl hE rfl rfl rfl (fun a ea=>?_)
     have hE:=Env.put_some hE rfl ea; clear ea
     refine YS rfl hE rfl rfl rfl (fun a ea=>?_)
     have hE:=Env.put_some hE rfl ea; clear ea
     refine YS rfl hE rfl rfl rfl (fun a ea=>?_)
     have hE:=Env.put_some hE rfl ea; clear ea
     refine YS rfl hE rfl rfl rfl (fun a ea=>?_)
     have hE:=Env.put_some hE rfl ea; clear ea
     refine KD rfl rfl hE rfl (JQ hE rfl rfl) (fun a hE=>?_)
     refine KY ?_
     exact hKr _ _ _ (hE.cut (.cons rfl (.cons rfl Subs.nil))) hR H
    ·replace H:=M.ite_f hb H
     have hE:=hE.reb 17 (Xx21 == 0) false hb rfl
     refine t_on rfl hE rfl rfl rfl ?_
     obtain ⟨Xx23,qXx23,H⟩:=H
     refine KD (v:=Xx23) rfl rfl hE rfl (ZB hE rfl sc76 qXx23) (fun a hE=>?_)
     refine t_on rfl hE rfl rfl rfl ?_
     obtain ⟨Xx24,qXx24,H⟩:=H
     refine KD (v:=.agg Xx24) rfl rfl hE rfl (Xk hE rfl ag29 qXx24) (fun a hE=>?_)
     refine t_on rfl hE rfl rfl rfl ?_
     refine KGc hE hR rfl rfl (M.unbind H) (fun Xx25 a w ea hR H=>?_)
     have hE:=Env.put_some hE rfl ea; clear ea
     refine t_on rfl hE rfl rfl rfl ?_
     refine KD (v:=.bool (!Xx25)) rfl rfl hE rfl (r_un hE rfl KGH) (fun a hE=>?_)
     refine KD rfl rfl hE rfl (Zr hE rfl rfl) (fun a hE=>?_)
     refine KY ?_
     exact hKr _ _ _ (hE.cut (.cons rfl (.cons rfl Subs.nil))) hR H
   ·intro Xx22 a w hE hR H
    refine KY ?_
    refine hK_20 _ _ ?_
    refine Z0 Xx22 hE rfl (fun hb=>?_) (fun hb=>?_)
    ·replace H:=M.ite_t hb H
     refine VT ?_
     exact ⟨0,rfl,hfin 1 _ _ hR H⟩
    ·replace H:=M.ite_f hb H
     refine Jm ?_
     refine hK_19 _ _ ?_
     refine KE ?_
     obtain ⟨Xx26,qXx26,H⟩:=H
     refine KD (v:=.int .i64 Xx26) rfl rfl hE rfl (ZB hE rfl sc3 qXx26) (fun a hE=>?_)
     refine KD (v:=.int .i64 (IntKind.wrap .i64 (Xx26 - 1))) rfl rfl hE rfl (ZK hE rfl rfl ZG KKe) (fun a hE=>?_)
     obtain ⟨u_27,qu_27,H⟩:=H
     refine UN rfl rfl hE hR (Zb hE rfl rfl sz3 qu_27) (fun a w hE hR hh=>?_)
     replace H:=M.at hh H; clear hh
     refine KY ?_
     exact hfin 0 _ _ hR H
  ·skip
   replace hE:Env (⟨25,(j_28.2::[])⟩:Frm) a [(2,.pointer (some Xx2)),(4,.pointer (some Xx10))]:=Env.cut hE (.cons rfl (.cons rfl Subs.nil))
   refine KB9 (fun hj=>?_) (fun hj=>?_)
   ·replace H:=M.ite_t (decide_eq_true hj) H
    refine VT ?_
    refine hret _ _ _ _ _ hE hR (M.unbind H) (fun w hR H=>?_)
    exact ⟨(),_,Zc hE rfl RV.nil,rfl,H⟩
   ·replace H:=M.ite_f (decide_eq_false hj) H
    refine KEH ?_
    refine hret _ _ _ _ _ hE hR (M.unbind H) (fun w hR H=>?_)
    exact ⟨(),_,Zc hE rfl RV.nil,rfl,H⟩
end Gx
