/- Printed by program: Go functions as Lean programs, each tied to its code. No condition. -/
import Derived.Test.YtpibdohdkfkcnaaGreatDoorP0
import Derived.Test.YtpibdohdkfkcnaaGreatDoorP1
import Derived.Test.YtpibdohdkfkcnaaGreatDoorP2
import Derived.Test.YtpibdohdkfkcnaaGreatDoorProg
import Derived.KernelRfl
import Derived.Lib.AtoiErrMem
import Derived.Shelf.Small.Strs
import Derived.Shelf.Strconv.Itoa3
import Derived.Shelf.Strconv.ParseInt10All
import Derived.Shelf.Strings.Builder1
import Derived.Shelf.Strings.Count
import Derived.Shelf.Strings.Search1
import Derived.Shelf.Strings.Search2
import Derived.Shelf.Strings.SlTrimAscii
set_option linter.unusedVariables false
set_option linter.unusedSimpArgs false
namespace Gx
open Go
abbrev NK:Nat:=172
abbrev GE:Nat:=173
abbrev KA9:Nat:=171
abbrev qg:Nat:=209
abbrev NL:Nat:=210
abbrev Uw:Nat:=211
abbrev Vi:Nat:=235
abbrev JF:Nat:=216
abbrev WW:Nat:=262
abbrev V9:Nat:=249
abbrev VH:Nat:=233
abbrev Vj:Nat:=234
abbrev VI:Nat:=250
abbrev WA:Nat:=247
abbrev WB:Nat:=232
abbrev YW:Nat:=231
abbrev WC:Nat:=271
abbrev Ux:Nat:=140
abbrev KCC:Nat:=22
abbrev KE1:Nat:=13
abbrev KCD:Nat:=25
abbrev KDE:Nat:=20
abbrev KBA:Nat:=179
abbrev zL:Nat:=177
abbrev KBB:Nat:=54
abbrev KBC:Nat:=212
abbrev Uf:Nat:=92
abbrev Ga:Nat:=93
abbrev KCE:Nat:=178
abbrev NM:Nat:=248
abbrev YN:Nat:=251
abbrev WX:Nat:=256
abbrev KCF:Nat:=253
abbrev KAE:Nat:=258
abbrev KDF:Nat:=130
abbrev KDG:Nat:=260
abbrev GF:Nat:=15
abbrev Gb:Nat:=27
abbrev Zd:Nat:=175
abbrev Jw:Nat:=165
abbrev Ut:Nat:=257
abbrev UE:Nat:=205
abbrev VT:Nat:=261
abbrev GG:Nat:=188
abbrev Gc:Nat:=259
abbrev GH:Nat:=267
abbrev Y9:Nat:=268
abbrev Xn:Nat:=266
abbrev XX:Nat:=265
abbrev NN:Nat:=263
abbrev XA:Nat:=189
abbrev YX:Nat:=61
abbrev WY:Nat:=59
abbrev Vk:Nat:=60
abbrev JO:Nat:=102
abbrev XB:Nat:=217
abbrev NO:Nat:=174
abbrev GI:Nat:=100
abbrev zM:Nat:=132
abbrev zN:Nat:=99
abbrev KAF:Nat:=153
abbrev XS:Nat:=124
abbrev KCG:Nat:=51
abbrev KBD:Nat:=53
abbrev KAG:Nat:=180
abbrev KCH:Nat:=52
abbrev KBE:Nat:=50
abbrev KCI:Nat:=201
abbrev KAH:Nat:=221
abbrev KAI:Nat:=131
abbrev WZ:Nat:=213
abbrev WP:Nat:=246
abbrev UQ:Nat:=227
abbrev Wa:Nat:=98
abbrev KDH:Nat:=236
abbrev VU:Nat:=252
abbrev qR:Nat:=23
abbrev KR:Nat:=29
abbrev KI:Nat:=54
abbrev zO:Nat:=4
abbrev XT:Nat:=3
abbrev Kf:Nat:=265
abbrev GU:Nat:=70
abbrev WD:Nat:=68
abbrev Jf:Nat:=268
abbrev Vm:Nat:=161
abbrev Js:Nat:=22
abbrev Gd:Nat:=273
abbrev Ym:Nat:=9
abbrev ZN:Nat:=82
abbrev Kp:Nat:=5
abbrev Ww:Nat:=233
abbrev Zh:Nat:=229
theorem mo:Go.Proofs.Tryz.prog.follows .mixedOrders=true:=by kernel_rfl
theorem un22:Go.Proofs.Tryz.prog.underlying 22=some (.slice 29):=by kernel_rfl
theorem un3:Go.Proofs.Tryz.prog.underlying 3=some (.int .i64):=by kernel_rfl
theorem un44:Go.Proofs.Tryz.prog.underlying 44=some (.slice 5):=by kernel_rfl
theorem un5:Go.Proofs.Tryz.prog.underlying 5=some (.int .u8):=by kernel_rfl
theorem un52:Go.Proofs.Tryz.prog.underlying 52=some (.slice 54):=by kernel_rfl
theorem un9:Go.Proofs.Tryz.prog.underlying 9=some (.string):=by kernel_rfl
theorem zr22:((Go.Proofs.Tryz.prog.info? 22).bind (·.zero))=some (.slice none 0 0):=by kernel_rfl
theorem KK7:((Go.Proofs.Tryz.prog.info? 229).bind (·.zero))=some (.agg (#[.int .i64 0]:Array Value)):=by kernel_rfl
theorem zr23:((Go.Proofs.Tryz.prog.info? 23).bind (·.zero))=some (.int .i64 0):=by kernel_rfl
theorem zr29:((Go.Proofs.Tryz.prog.info? 29).bind (·.zero))=some (.agg (#[.int .i64 0,.string ByteArray.empty,.int .i64 0,.int .i64 0]:Array Value)):=by kernel_rfl
theorem zr3:((Go.Proofs.Tryz.prog.info? 3).bind (·.zero))=some (.int .i64 0):=by kernel_rfl
theorem zr5:((Go.Proofs.Tryz.prog.info? 5).bind (·.zero))=some (.int .u8 0):=by kernel_rfl
theorem zr54:((Go.Proofs.Tryz.prog.info? 54).bind (·.zero))=some (.agg (#[.int .i64 0,.int .i64 0,.string ByteArray.empty,.slice none 0 0]:Array Value)):=by kernel_rfl
theorem zr70:((Go.Proofs.Tryz.prog.info? 70).bind (·.zero))=some (.agg (#[.string ByteArray.empty,.int .i64 0]:Array Value)):=by kernel_rfl
theorem ag29:agB Go.Proofs.Tryz.prog 29 4=true:=by kernel_rfl
theorem ag54:agB Go.Proofs.Tryz.prog 54 4=true:=by kernel_rfl
theorem ap22:apB Go.Proofs.Tryz.prog 22 29 4 40 (#[.int .i64 0,.string ByteArray.empty,.int .i64 0,.int .i64 0]:Array Value):=⟨un22,Xj (by kernel_rfl)⟩
theorem ap44:apB Go.Proofs.Tryz.prog 44 5 1 1 (#[.int .u8 0]:Array Value):=⟨un44,Xj (by kernel_rfl)⟩
theorem ap52:apB Go.Proofs.Tryz.prog 52 54 4 56 (#[.int .i64 0,.int .i64 0,.string ByteArray.empty,.slice none 0 0]:Array Value):=⟨un52,Xj (by kernel_rfl)⟩
theorem bd29:∀ w,(Instr.build 29 #[]).run Go.Proofs.Tryz.prog w=.ok (.agg (#[.int .i64 0,.string ByteArray.empty,.int .i64 0,.int .i64 0]:Array Value)) w:=fun w=>by kernel_rfl
theorem bd54:∀ w,(Instr.build 54 #[]).run Go.Proofs.Tryz.prog w=.ok (.agg (#[.int .i64 0,.int .i64 0,.string ByteArray.empty,.slice none 0 0]:Array Value)) w:=fun w=>by kernel_rfl
theorem NP:Callee? Go.Proofs.Tryz.prog 172:=KF Go.Proofs.Tryz.func172 (by kernel_rfl) rfl
theorem GJ:Callee? Go.Proofs.Tryz.prog 173:=KF Go.Proofs.Tryz.func173 (by kernel_rfl) rfl
theorem KBF:Callee? Go.Proofs.Tryz.prog 171:=KF Go.Proofs.Tryz.func171 (by kernel_rfl) rfl
theorem qh:Callee? Go.Proofs.Tryz.prog 209:=KF Go.Proofs.Tryz.func209 (by kernel_rfl) rfl
theorem NQ:Callee? Go.Proofs.Tryz.prog 210:=KF Go.Proofs.Tryz.func210 (by kernel_rfl) rfl
theorem Uy:Callee? Go.Proofs.Tryz.prog 211:=KF Go.Proofs.Tryz.func211 (by kernel_rfl) rfl
theorem WE:Callee? Go.Proofs.Tryz.prog 216:=KF Go.Proofs.Tryz.func216 (by kernel_rfl) rfl
theorem Wb:Callee? Go.Proofs.Tryz.prog 262:=KF Go.Proofs.Tryz.func262 (by kernel_rfl) rfl
theorem WF:Callee? Go.Proofs.Tryz.prog 249:=KF Go.Proofs.Tryz.func249 (by kernel_rfl) rfl
theorem VJ:Callee? Go.Proofs.Tryz.prog 233:=KF Go.Proofs.Tryz.func233 (by kernel_rfl) rfl
theorem Vn:Callee? Go.Proofs.Tryz.prog 234:=KF Go.Proofs.Tryz.func234 (by kernel_rfl) rfl
theorem VK:Callee? Go.Proofs.Tryz.prog 250:=KF Go.Proofs.Tryz.func250 (by kernel_rfl) rfl
theorem WG:Callee? Go.Proofs.Tryz.prog 247:=KF Go.Proofs.Tryz.func247 (by kernel_rfl) rfl
theorem WH:Callee? Go.Proofs.Tryz.prog 232:=KF Go.Proofs.Tryz.func232 (by kernel_rfl) rfl
theorem YY:Callee? Go.Proofs.Tryz.prog 231:=KF Go.Proofs.Tryz.func231 (by kernel_rfl) rfl
theorem WI:Callee? Go.Proofs.Tryz.prog 271:=KF Go.Proofs.Tryz.func271 (by kernel_rfl) rfl
theorem Uz:Callee? Go.Proofs.Tryz.prog 140:=KF Go.Proofs.Tryz.func140 (by kernel_rfl) rfl
theorem qS:Callee? Go.Proofs.Tryz.prog 22:=KF Go.Proofs.Tryz.func22 (by kernel_rfl) rfl
theorem KE2:Callee? Go.Proofs.Tryz.prog 13:=KF Go.Proofs.Tryz.func13 (by kernel_rfl) rfl
theorem KCJ:Callee? Go.Proofs.Tryz.prog 25:=KF Go.Proofs.Tryz.func25 (by kernel_rfl) rfl
theorem KDI:Callee? Go.Proofs.Tryz.prog 20:=KF Go.Proofs.Tryz.func20 (by kernel_rfl) rfl
theorem KBG:Callee? Go.Proofs.Tryz.prog 179:=KF Go.Proofs.Tryz.func179 (by kernel_rfl) rfl
theorem zP:Callee? Go.Proofs.Tryz.prog 177:=KF Go.Proofs.Tryz.func177 (by kernel_rfl) rfl
theorem KBH:Callee? Go.Proofs.Tryz.prog 54:=KF Go.Proofs.Tryz.func54 (by kernel_rfl) rfl
theorem KBI:Callee? Go.Proofs.Tryz.prog 212:=KF Go.Proofs.Tryz.func212 (by kernel_rfl) rfl
theorem KAi:Callee? Go.Proofs.Tryz.prog 126:=KF Go.Proofs.Tryz.func126 (by kernel_rfl) rfl
theorem NR:Callee? Go.Proofs.Tryz.prog 45:=KF Go.Proofs.Tryz.func45 (by kernel_rfl) rfl
theorem GK:Callee? Go.Proofs.Tryz.prog 92:=KF Go.Proofs.Tryz.func92 (by kernel_rfl) rfl
theorem Vo:Callee? Go.Proofs.Tryz.prog 46:=KF Go.Proofs.Tryz.func46 (by kernel_rfl) rfl
theorem Ge:Callee? Go.Proofs.Tryz.prog 93:=KF Go.Proofs.Tryz.func93 (by kernel_rfl) rfl
theorem KCK:Callee? Go.Proofs.Tryz.prog 178:=KF Go.Proofs.Tryz.func178 (by kernel_rfl) rfl
theorem NS:Callee? Go.Proofs.Tryz.prog 248:=KF Go.Proofs.Tryz.func248 (by kernel_rfl) rfl
theorem YO:Callee? Go.Proofs.Tryz.prog 251:=KF Go.Proofs.Tryz.func251 (by kernel_rfl) rfl
theorem Wc:Callee? Go.Proofs.Tryz.prog 256:=KF Go.Proofs.Tryz.func256 (by kernel_rfl) rfl
theorem KCL:Callee? Go.Proofs.Tryz.prog 253:=KF Go.Proofs.Tryz.func253 (by kernel_rfl) rfl
theorem KAJ:Callee? Go.Proofs.Tryz.prog 258:=KF Go.Proofs.Tryz.func258 (by kernel_rfl) rfl
theorem KDJ:Callee? Go.Proofs.Tryz.prog 130:=KF Go.Proofs.Tryz.func130 (by kernel_rfl) rfl
theorem KDK:Callee? Go.Proofs.Tryz.prog 260:=KF Go.Proofs.Tryz.func260 (by kernel_rfl) rfl
theorem GL:Callee? Go.Proofs.Tryz.prog 15:=KF Go.Proofs.Tryz.func15 (by kernel_rfl) rfl
theorem Gf:Callee? Go.Proofs.Tryz.prog 27:=KF Go.Proofs.Tryz.func27 (by kernel_rfl) rfl
theorem Ze:Callee? Go.Proofs.Tryz.prog 175:=KF Go.Proofs.Tryz.func175 (by kernel_rfl) rfl
theorem Jx:Callee? Go.Proofs.Tryz.prog 165:=KF Go.Proofs.Tryz.func165 (by kernel_rfl) rfl
theorem Uu:Callee? Go.Proofs.Tryz.prog 257:=KF Go.Proofs.Tryz.func257 (by kernel_rfl) rfl
theorem UF:Callee? Go.Proofs.Tryz.prog 205:=KF Go.Proofs.Tryz.func205 (by kernel_rfl) rfl
theorem VV:Callee? Go.Proofs.Tryz.prog 261:=KF Go.Proofs.Tryz.func261 (by kernel_rfl) rfl
theorem GM:Callee? Go.Proofs.Tryz.prog 188:=KF Go.Proofs.Tryz.func188 (by kernel_rfl) rfl
theorem Gg:Callee? Go.Proofs.Tryz.prog 259:=KF Go.Proofs.Tryz.func259 (by kernel_rfl) rfl
theorem GN:Callee? Go.Proofs.Tryz.prog 267:=KF Go.Proofs.Tryz.func267 (by kernel_rfl) rfl
theorem XC:Callee? Go.Proofs.Tryz.prog 268:=KF Go.Proofs.Tryz.func268 (by kernel_rfl) rfl
theorem Xo:Callee? Go.Proofs.Tryz.prog 266:=KF Go.Proofs.Tryz.func266 (by kernel_rfl) rfl
theorem XY:Callee? Go.Proofs.Tryz.prog 265:=KF Go.Proofs.Tryz.func265 (by kernel_rfl) rfl
theorem NT:Callee? Go.Proofs.Tryz.prog 263:=KF Go.Proofs.Tryz.func263 (by kernel_rfl) rfl
theorem XD:Callee? Go.Proofs.Tryz.prog 189:=KF Go.Proofs.Tryz.func189 (by kernel_rfl) rfl
theorem YZ:Callee? Go.Proofs.Tryz.prog 61:=KF Go.Proofs.Tryz.func61 (by kernel_rfl) rfl
theorem Wd:Callee? Go.Proofs.Tryz.prog 59:=KF Go.Proofs.Tryz.func59 (by kernel_rfl) rfl
theorem Vp:Callee? Go.Proofs.Tryz.prog 60:=KF Go.Proofs.Tryz.func60 (by kernel_rfl) rfl
theorem JP:Callee? Go.Proofs.Tryz.prog 102:=KF Go.Proofs.Tryz.func102 (by kernel_rfl) rfl
theorem XE:Callee? Go.Proofs.Tryz.prog 217:=KF Go.Proofs.Tryz.func217 (by kernel_rfl) rfl
theorem NU:Callee? Go.Proofs.Tryz.prog 174:=KF Go.Proofs.Tryz.func174 (by kernel_rfl) rfl
theorem Ug:Callee? Go.Proofs.Tryz.prog 100:=KF Go.Proofs.Tryz.func100 (by kernel_rfl) rfl
theorem zQ:Callee? Go.Proofs.Tryz.prog 132:=KF Go.Proofs.Tryz.func132 (by kernel_rfl) rfl
theorem zR:Callee? Go.Proofs.Tryz.prog 99:=KF Go.Proofs.Tryz.func99 (by kernel_rfl) rfl
theorem NV:Callee? Go.Proofs.Tryz.prog 152:=KF Go.Proofs.Tryz.func152 (by kernel_rfl) rfl
theorem KAK:Callee? Go.Proofs.Tryz.prog 153:=KF Go.Proofs.Tryz.func153 (by kernel_rfl) rfl
theorem XU:Callee? Go.Proofs.Tryz.prog 124:=KF Go.Proofs.Tryz.func124 (by kernel_rfl) rfl
theorem qT:Callee? Go.Proofs.Tryz.prog 51:=KF Go.Proofs.Tryz.func51 (by kernel_rfl) rfl
theorem KBJ:Callee? Go.Proofs.Tryz.prog 53:=KF Go.Proofs.Tryz.func53 (by kernel_rfl) rfl
theorem KAL:Callee? Go.Proofs.Tryz.prog 180:=KF Go.Proofs.Tryz.func180 (by kernel_rfl) rfl
theorem qU:Callee? Go.Proofs.Tryz.prog 52:=KF Go.Proofs.Tryz.func52 (by kernel_rfl) rfl
theorem KBK:Callee? Go.Proofs.Tryz.prog 50:=KF Go.Proofs.Tryz.func50 (by kernel_rfl) rfl
theorem Ya:Callee? Go.Proofs.Tryz.prog 241:=KF Go.Proofs.Tryz.func241 (by kernel_rfl) rfl
theorem KCM:Callee? Go.Proofs.Tryz.prog 201:=KF Go.Proofs.Tryz.func201 (by kernel_rfl) rfl
theorem KAM:Callee? Go.Proofs.Tryz.prog 221:=KF Go.Proofs.Tryz.func221 (by kernel_rfl) rfl
theorem KAN:Callee? Go.Proofs.Tryz.prog 131:=KF Go.Proofs.Tryz.func131 (by kernel_rfl) rfl
theorem KBL:Callee? Go.Proofs.Tryz.prog 213:=KF Go.Proofs.Tryz.func213 (by kernel_rfl) rfl
theorem U0:Callee? Go.Proofs.Tryz.prog 245:=KF Go.Proofs.Tryz.func245 (by kernel_rfl) rfl
theorem XF:Callee? Go.Proofs.Tryz.prog 254:=KF Go.Proofs.Tryz.func254 (by kernel_rfl) rfl
theorem Ko:Callee? Go.Proofs.Tryz.prog 228:=KF Go.Proofs.Tryz.func228 (by kernel_rfl) rfl
theorem Ke:Callee? Go.Proofs.Tryz.prog 240:=KF Go.Proofs.Tryz.func240 (by kernel_rfl) rfl
theorem WQ:Callee? Go.Proofs.Tryz.prog 246:=KF Go.Proofs.Tryz.func246 (by kernel_rfl) rfl
theorem ZB:Callee? Go.Proofs.Tryz.prog 244:=KF Go.Proofs.Tryz.func244 (by kernel_rfl) rfl
theorem VN:Callee? Go.Proofs.Tryz.prog 242:=KF Go.Proofs.Tryz.func242 (by kernel_rfl) rfl
theorem Gh:Callee? Go.Proofs.Tryz.prog 243:=KF Go.Proofs.Tryz.func243 (by kernel_rfl) rfl
theorem UR:Callee? Go.Proofs.Tryz.prog 227:=KF Go.Proofs.Tryz.func227 (by kernel_rfl) rfl
theorem NW:Callee? Go.Proofs.Tryz.prog 98:=KF Go.Proofs.Tryz.func98 (by kernel_rfl) rfl
theorem WJ:z7 Go.Proofs.Tryz.prog 233 0=some 0:=by kernel_rfl
theorem ZD:z7 Go.Proofs.Tryz.prog 233 1=some 1:=by kernel_rfl
theorem KIZ:z7 Go.Proofs.Tryz.prog 29 3=some 3:=by kernel_rfl
theorem KK8:z7 Go.Proofs.Tryz.prog 70 0=some 0:=by kernel_rfl
theorem KCN:z7 Go.Proofs.Tryz.prog 70 1=some 1:=by kernel_rfl
theorem KL5:niB Go.Proofs.Tryz.prog 229=true:=by kernel_rfl
theorem KL6:WU Go.Proofs.Tryz.prog 229=some [(0,1)]:=by kernel_rfl
theorem pl54:WU Go.Proofs.Tryz.prog 54=some [(0,1),(1,1),(2,1),(3,1)]:=by kernel_rfl
theorem pl70:WU Go.Proofs.Tryz.prog 70=some [(0,1),(1,1)]:=by kernel_rfl
theorem sc22:scB Go.Proofs.Tryz.prog 22=true:=by kernel_rfl
theorem sc23:scB Go.Proofs.Tryz.prog 23=true:=by kernel_rfl
theorem sc3:scB Go.Proofs.Tryz.prog 3=true:=by kernel_rfl
theorem sc9:scB Go.Proofs.Tryz.prog 9=true:=by kernel_rfl
theorem sz22:szB Go.Proofs.Tryz.prog 22 1=true:=by kernel_rfl
theorem sz23:szB Go.Proofs.Tryz.prog 23 1=true:=by kernel_rfl
theorem sz29:szB Go.Proofs.Tryz.prog 29 4=true:=by kernel_rfl
theorem sz3:szB Go.Proofs.Tryz.prog 3 1=true:=by kernel_rfl
theorem sz5:szB Go.Proofs.Tryz.prog 5 1=true:=by kernel_rfl
theorem sz54:szB Go.Proofs.Tryz.prog 54 4=true:=by kernel_rfl
end Gx
namespace Gx
open Go Go.Proofs Go.Shelf Go.Sort Go.RowKit
set_option linter.unusedVariables false
set_option linter.unusedSimpArgs false
set_option maxRecDepth 100000
def zS:Go.Shelf.Ren:=⟨fun | 119=>236 | 120=>220 | 129=>248 | 137=>100 | 138=>207 | 143=>208 | 151=>192 | 152=>219 | 160=>99 | 195=>222 | 197=>191 | 213=>211 | 217=>140 | 218=>223 | 219=>224 | 224=>237 | 225=>238 | 227=>135 | 228=>190 | 231=>133 | 232=>134 | 233=>136 | 234=>137 | 235=>138 | 236=>139 | 240=>102 | 246=>216 | 247=>262 | 260=>218 | 265=>225 | 266=>194 | 267=>239 | 271=>193 | 276=>141 | 283=>231 | 284=>232 | 285=>233 | 286=>234 | 287=>264 | 314=>252 | 317=>247 | 318=>249 | 319=>250 | 320=>251 | 321=>269 | 322=>270 | 337=>255 | 338=>256 | n=>n,fun | 0=>0 | 2=>2 | 3=>3 | 4=>4 | 5=>5 | 9=>9 | 20=>20 | 21=>21 | 37=>44 | 46=>210 | 51=>251 | 53=>216 | 70=>80 | 72=>82 | 75=>84 | 80=>88 | 105=>211 | 116=>166 | 117=>167 | 119=>242 | 124=>170 | 138=>244 | 139=>245 | 146=>254 | 164=>171 | 167=>265 | 171=>236 | 173=>239 | 175=>266 | 212=>250 | 213=>252 | 232=>261 | 233=>262 | n=>n,fun | 1=>0 | 3=>1 | 4=>2 | 17=>3 | 18=>4 | 19=>5 | n=>n⟩
theorem KBM:Lays.n213 Go.Proofs.Tryz.prog zS:={
 mixed:=by kernel_rfl
 f213:=Tryz.func211.trans (congrArg some (by kernel_rfl))
 f265:=Tryz.func225.trans (congrArg some (by kernel_rfl))
 t3:=Tryz.underlying3
 a3:=Tryz.isAgg3
 z3:=Tryz.sizeOf3
 v3:=Tryz.zeroValue3
 t9:=Tryz.underlying9
 a9:=Tryz.isAgg9
 z9:=Tryz.sizeOf9
 v9:=Tryz.zeroValue9 }
theorem KBN:Lays.n217 Go.Proofs.Tryz.prog zS:={
 mixed:=by kernel_rfl
 f217:=Tryz.func140.trans (congrArg some (by kernel_rfl))
 f266:=Tryz.func194.trans (congrArg some (by kernel_rfl))
 t3:=Tryz.underlying3
 a3:=Tryz.isAgg3
 z3:=Tryz.sizeOf3
 v3:=Tryz.zeroValue3
 t5:=Tryz.underlying5
 a5:=Tryz.isAgg5
 z5:=Tryz.sizeOf5
 v5:=Tryz.zeroValue5
 t9:=Tryz.underlying9
 a9:=Tryz.isAgg9
 z9:=Tryz.sizeOf9
 v9:=Tryz.zeroValue9 }
theorem KAO:LaysC.n247 Go.Proofs.Tryz.prog zS:={
 mixed:=by kernel_rfl
 f247:=Tryz.func262.trans (congrArg some (by kernel_rfl))
 f287:=Tryz.func264.trans (congrArg some (by kernel_rfl))
 f321:=Tryz.func269.trans (congrArg some (by kernel_rfl))
 f322:=Tryz.func270.trans (congrArg some (by kernel_rfl))
 t0:=Tryz.underlying0
 a0:=Tryz.isAgg0
 z0:=Tryz.sizeOf0
 v0:=Tryz.zeroValue0
 t2:=Tryz.underlying2
 a2:=Tryz.isAgg2
 z2:=Tryz.sizeOf2
 v2:=Tryz.zeroValue2
 t3:=Tryz.underlying3
 a3:=Tryz.isAgg3
 z3:=Tryz.sizeOf3
 v3:=Tryz.zeroValue3
 t4:=Tryz.underlying4
 a4:=Tryz.isAgg4
 z4:=Tryz.sizeOf4
 v4:=Tryz.zeroValue4
 t5:=Tryz.underlying5
 a5:=Tryz.isAgg5
 z5:=Tryz.sizeOf5
 v5:=Tryz.zeroValue5
 t9:=Tryz.underlying9
 a9:=Tryz.isAgg9
 z9:=Tryz.sizeOf9
 v9:=Tryz.zeroValue9
 t21:=Tryz.underlying21
 a21:=Tryz.isAgg21
 z21:=Tryz.sizeOf21
 v21:=Tryz.zeroValue21
 t37:=Tryz.underlying44
 a37:=Tryz.isAgg44
 z37:=Tryz.sizeOf44
 v37:=Tryz.zeroValue44
 t46:=Tryz.underlying210
 a46:=Tryz.isAgg210
 z46:=Tryz.sizeOf210
 v46:=Tryz.zeroValue210
 t53:=Tryz.underlying216
 a53:=Tryz.isAgg216
 z53:=Tryz.sizeOf216
 v53:=Tryz.zeroValue216
 t75:=Tryz.underlying84
 a75:=Tryz.isAgg84
 z75:=Tryz.sizeOf84
 v75:=Tryz.zeroValue84
 t167:=Tryz.underlying265
 a167:=Tryz.isAgg265
 z167:=Tryz.sizeOf265
 v167:=Tryz.zeroValue265
 t175:=Tryz.underlying266
 a175:=Tryz.isAgg266
 z175:=Tryz.sizeOf266
 v175:=Tryz.zeroValue266
 t80:=Tryz.underlying88
 a80:=Tryz.isAgg88
 z80:=Tryz.sizeOf88
 v80:=Tryz.zeroValue88
 i0:=by kernel_rfl
 i2:=by kernel_rfl
 i3:=by kernel_rfl
 i4:=by kernel_rfl
 i5:=by kernel_rfl
 i9:=by kernel_rfl
 i21:=by kernel_rfl
 i37:=by kernel_rfl
 i46:=by kernel_rfl
 i53:=by kernel_rfl
 i75:=by kernel_rfl
 i80:=by kernel_rfl
 i167:=by kernel_rfl
 i175:=by kernel_rfl
 c0:=by kernel_rfl
 c2:=by kernel_rfl
 c3:=by kernel_rfl
 c4:=by kernel_rfl
 c5:=by kernel_rfl
 c9:=by kernel_rfl
 c21:=by kernel_rfl
 c37:=by kernel_rfl
 c46:=by kernel_rfl
 c53:=by kernel_rfl
 c75:=by kernel_rfl
 c80:=by kernel_rfl
 c167:=by kernel_rfl
 c175:=by kernel_rfl }
theorem NX:Lays.n240 Go.Proofs.Tryz.prog zS:={
 mixed:=by kernel_rfl
 f240:=Tryz.func102.trans (congrArg some (by kernel_rfl))
 f276:=Tryz.func141.trans (congrArg some (by kernel_rfl))
 t0:=Tryz.underlying0
 a0:=Tryz.isAgg0
 z0:=Tryz.sizeOf0
 v0:=Tryz.zeroValue0
 t4:=Tryz.underlying4
 a4:=Tryz.isAgg4
 z4:=Tryz.sizeOf4
 v4:=Tryz.zeroValue4
 t9:=Tryz.underlying9
 a9:=Tryz.isAgg9
 z9:=Tryz.sizeOf9
 v9:=Tryz.zeroValue9
 t20:=Tryz.underlying20
 a20:=Tryz.isAgg20
 z20:=Tryz.sizeOf20
 v20:=Tryz.zeroValue20
 t70:=Tryz.underlying80
 a70:=Tryz.isAgg80
 z70:=Tryz.sizeOf80
 v70:=Tryz.zeroValue80
 t72:=Tryz.underlying82
 a72:=Tryz.isAgg82
 z72:=Tryz.sizeOf82
 v72:=Tryz.zeroValue82
 t164:=Tryz.underlying171
 a164:=Tryz.isAgg171
 z164:=Tryz.sizeOf171
 v164:=Tryz.zeroValue171 }
theorem KAP:LaysM.n246 Go.Proofs.Tryz.prog zS:={
 mixed:=by kernel_rfl
 f129:=Tryz.func248.trans (congrArg some (by kernel_rfl))
 f246:=Tryz.func216.trans (congrArg some (by kernel_rfl))
 f283:=Tryz.func231.trans (congrArg some (by kernel_rfl))
 f284:=Tryz.func232.trans (congrArg some (by kernel_rfl))
 f285:=Tryz.func233.trans (congrArg some (by kernel_rfl))
 f286:=Tryz.func234.trans (congrArg some (by kernel_rfl))
 f317:=Tryz.func247.trans (congrArg some (by kernel_rfl))
 f318:=Tryz.func249.trans (congrArg some (by kernel_rfl))
 f319:=Tryz.func250.trans (congrArg some (by kernel_rfl))
 f320:=Tryz.func251.trans (congrArg some (by kernel_rfl))
 f337:=Tryz.func255.trans (congrArg some (by kernel_rfl))
 f338:=Tryz.func256.trans (congrArg some (by kernel_rfl))
 t0:=Tryz.underlying0
 a0:=Tryz.isAgg0
 z0:=Tryz.sizeOf0
 v0:=Tryz.zeroValue0
 t2:=Tryz.underlying2
 a2:=Tryz.isAgg2
 z2:=Tryz.sizeOf2
 v2:=Tryz.zeroValue2
 t3:=Tryz.underlying3
 a3:=Tryz.isAgg3
 z3:=Tryz.sizeOf3
 v3:=Tryz.zeroValue3
 t4:=Tryz.underlying4
 a4:=Tryz.isAgg4
 z4:=Tryz.sizeOf4
 v4:=Tryz.zeroValue4
 t5:=Tryz.underlying5
 a5:=Tryz.isAgg5
 z5:=Tryz.sizeOf5
 v5:=Tryz.zeroValue5
 t9:=Tryz.underlying9
 a9:=Tryz.isAgg9
 z9:=Tryz.sizeOf9
 v9:=Tryz.zeroValue9
 t20:=Tryz.underlying20
 a20:=Tryz.isAgg20
 z20:=Tryz.sizeOf20
 v20:=Tryz.zeroValue20
 t37:=Tryz.underlying44
 a37:=Tryz.isAgg44
 z37:=Tryz.sizeOf44
 v37:=Tryz.zeroValue44
 t46:=Tryz.underlying210
 a46:=Tryz.isAgg210
 z46:=Tryz.sizeOf210
 v46:=Tryz.zeroValue210
 t51:=Tryz.underlying251
 a51:=Tryz.isAgg251
 z51:=Tryz.sizeOf251
 v51:=Tryz.zeroValue251
 t53:=Tryz.underlying216
 a53:=Tryz.isAgg216
 z53:=Tryz.sizeOf216
 v53:=Tryz.zeroValue216
 t171:=Tryz.underlying236
 a171:=Tryz.isAgg236
 z171:=Tryz.sizeOf236
 v171:=Tryz.zeroValue236
 t173:=Tryz.underlying239
 a173:=Tryz.isAgg239
 z173:=Tryz.sizeOf239
 v173:=Tryz.zeroValue239
 t212:=Tryz.underlying250
 a212:=Tryz.isAgg250
 z212:=Tryz.sizeOf250
 v212:=Tryz.zeroValue250
 t213:=Tryz.underlying252
 a213:=Tryz.isAgg252
 z213:=Tryz.sizeOf252
 t232:=Tryz.underlying261
 a232:=Tryz.isAgg261
 z232:=Tryz.sizeOf261
 v232:=Tryz.zeroValue261
 t233:=Tryz.underlying262
 a233:=Tryz.isAgg262
 z233:=Tryz.sizeOf262
 v233:=Tryz.zeroValue262
 g17:=by kernel_rfl
 g18:=by kernel_rfl
 g19:=by kernel_rfl
 i0:=by kernel_rfl
 i2:=by kernel_rfl
 i3:=by kernel_rfl
 i4:=by kernel_rfl
 i5:=by kernel_rfl
 i9:=by kernel_rfl
 i20:=by kernel_rfl
 i37:=by kernel_rfl
 i46:=by kernel_rfl
 i51:=by kernel_rfl
 i53:=by kernel_rfl
 i171:=by kernel_rfl
 i173:=by kernel_rfl
 i212:=by kernel_rfl
 i232:=by kernel_rfl
 i233:=by kernel_rfl
 m17:=by kernel_rfl
 m18:=by kernel_rfl
 m19:=by kernel_rfl }
theorem KBO:Lays.n160 Go.Proofs.Tryz.prog zS:={
 mixed:=by kernel_rfl
 f119:=Tryz.func236.trans (congrArg some (by kernel_rfl))
 f120:=Tryz.func220.trans (congrArg some (by kernel_rfl))
 f137:=Tryz.func100.trans (congrArg some (by kernel_rfl))
 f151:=Tryz.func192.trans (congrArg some (by kernel_rfl))
 f152:=Tryz.func219.trans (congrArg some (by kernel_rfl))
 f160:=Tryz.func99.trans (congrArg some (by kernel_rfl))
 f197:=Tryz.func191.trans (congrArg some (by kernel_rfl))
 f217:=Tryz.func140.trans (congrArg some (by kernel_rfl))
 f224:=Tryz.func237.trans (congrArg some (by kernel_rfl))
 f225:=Tryz.func238.trans (congrArg some (by kernel_rfl))
 f227:=Tryz.func135.trans (congrArg some (by kernel_rfl))
 f228:=Tryz.func190.trans (congrArg some (by kernel_rfl))
 f231:=Tryz.func133.trans (congrArg some (by kernel_rfl))
 f232:=Tryz.func134.trans (congrArg some (by kernel_rfl))
 f233:=Tryz.func136.trans (congrArg some (by kernel_rfl))
 f234:=Tryz.func137.trans (congrArg some (by kernel_rfl))
 f235:=Tryz.func138.trans (congrArg some (by kernel_rfl))
 f236:=Tryz.func139.trans (congrArg some (by kernel_rfl))
 f260:=Tryz.func218.trans (congrArg some (by kernel_rfl))
 f266:=Tryz.func194.trans (congrArg some (by kernel_rfl))
 f271:=Tryz.func193.trans (congrArg some (by kernel_rfl))
 t0:=Tryz.underlying0
 a0:=Tryz.isAgg0
 z0:=Tryz.sizeOf0
 v0:=Tryz.zeroValue0
 t3:=Tryz.underlying3
 a3:=Tryz.isAgg3
 z3:=Tryz.sizeOf3
 v3:=Tryz.zeroValue3
 t4:=Tryz.underlying4
 a4:=Tryz.isAgg4
 z4:=Tryz.sizeOf4
 v4:=Tryz.zeroValue4
 t5:=Tryz.underlying5
 a5:=Tryz.isAgg5
 z5:=Tryz.sizeOf5
 v5:=Tryz.zeroValue5
 t9:=Tryz.underlying9
 a9:=Tryz.isAgg9
 z9:=Tryz.sizeOf9
 v9:=Tryz.zeroValue9
 t21:=Tryz.underlying21
 a21:=Tryz.isAgg21
 z21:=Tryz.sizeOf21
 v21:=Tryz.zeroValue21
 t46:=Tryz.underlying210
 a46:=Tryz.isAgg210
 z46:=Tryz.sizeOf210
 v46:=Tryz.zeroValue210
 t105:=Tryz.underlying211
 a105:=Tryz.isAgg211
 z105:=Tryz.sizeOf211
 v105:=Tryz.zeroValue211
 t116:=Tryz.underlying166
 a116:=Tryz.isAgg166
 z116:=Tryz.sizeOf166
 t117:=Tryz.underlying167
 a117:=Tryz.isAgg167
 z117:=Tryz.sizeOf167
 v117:=Tryz.zeroValue167
 t119:=Tryz.underlying242
 a119:=Tryz.isAgg242
 z119:=Tryz.sizeOf242
 t124:=Tryz.underlying170
 a124:=Tryz.isAgg170
 z124:=Tryz.sizeOf170
 v124:=Tryz.zeroValue170
 t138:=Tryz.underlying244
 a138:=Tryz.isAgg244
 z138:=Tryz.sizeOf244
 v138:=Tryz.zeroValue244
 t139:=Tryz.underlying245
 a139:=Tryz.isAgg245
 z139:=Tryz.sizeOf245
 v139:=Tryz.zeroValue245
 g3:=by kernel_rfl
 g4:=by kernel_rfl }
def ZO (x0 x1:ByteArray):M Int:=M.pure (Lib.compareBytes x0.data.toList x1.data.toList)
theorem VL (x0 x1:ByteArray):Ku Go.Proofs.Tryz.prog 211 #[.string x0,.string x1] (fun (r:Int)=>.int .i64 r) (ZO x0 x1):=by
 intro w Q H
 refine (Any.bytealg_CompareString KBM x0 x1 w).mono ?_
 rintro e w' ⟨rfl,rfl⟩
 exact ⟨_,rfl,H,Rest.refl _⟩
def K0 (x0:ByteArray) (x1:Int):M Int:=M.pure (Lib.indexByte x0.data.toList x1.toNat.toUInt8)
theorem VM (x0:ByteArray) (x1:Int):Ku Go.Proofs.Tryz.prog 140 #[.string x0,.int .u8 x1] (fun (r:Int)=>.int .i64 r) (K0 x0 x1):=by
 intro w Q H
 refine (Any.stringslite_IndexByte KBN x0 x1 w).mono ?_
 rintro e w' ⟨rfl,rfl⟩
 exact ⟨_,rfl,H,Rest.refl _⟩
def Jk (x0:ByteArray) (x1:Int) (x2:Int):M (Int × Value) :=
 ⟨fun h Q=>x1=10∧x2=64∧x0.size≤9223372036854775806∧∀ h':Heap,h.size≤h'.size→(∀ i,i < h.size→h'[i]?=h[i]?)→(match Lib.parseIntB 64 x0.data.toList with | .ok v=>Q (v,.nilIface) h' | .range=>Q (Lib.intSat 64 x0.data.toList,.iface 265 (.int .i64 1)) h' | _=>Q (0,.iface 265 (.int .i64 2)) h'),
  fun hq ⟨h0,h1,h2,h3⟩=>⟨h0,h1,h2,fun h' a b=>by have h5:=h3 h' a b; revert h5; cases Lib.parseIntB 64 x0.data.toList <;> exact fun h5=>hq _ _ h5⟩⟩
theorem Wx (x0:ByteArray) (x1:Int) (x2:Int):Ku Go.Proofs.Tryz.prog 262 #[.string x0,.int .i64 x1,.int .i64 x2] (fun (r:Int × Value)=>.tuple #[.int .i64 r.1,r.2]) (Jk x0 x1 x2):=by
 intro w Q ⟨h0,h1,h2,h4⟩
 subst h0
 subst h1
 refine (Any.internal_strconv_ParseInt_10_all64 KAO x0 h2 w).mono ?_
 rintro e w' ⟨rfl,hw⟩
 have hb:w.heap.size≤w'.heap.size∧(∀ i,i < w.heap.size→w'.heap[i]?=w.heap[i]?)∧Rest w w':=by
  rcases hw with rfl | ⟨t,rfl⟩
  ·exact ⟨Nat.le_refl _,fun _ _=>rfl,Rest.refl _⟩
  ·have hb:=Lib.bytesWorld_below w (5) t
   exact ⟨hb.size,hb.block,⟨hb.os,hb.output,hb.tape,Nat.le_succ w.drawn⟩⟩
 obtain ⟨b1,b2,b3⟩:=hb
 have h5:=h4 _ b1 b2
 cases hp:Lib.parseIntB 64 x0.data.toList <;> (rw [hp] at h5; exact ⟨_,rfl,h5,b3⟩)
def Ul (x0:ByteArray) (x1:ByteArray):M (Option Addr):=M.fail
theorem Xp (x0:ByteArray) (x1:ByteArray):Ku Go.Proofs.Tryz.prog 265 #[.string x0,.string x1] (fun (r:Option Addr)=>.pointer r) (Ul x0 x1):=fun w Q H=>H.elim
def VW (x0:ByteArray) (x1:ByteArray) (x2:Int):M (Option Addr):=M.fail
theorem Gi (x0:ByteArray) (x1:ByteArray) (x2:Int):Ku Go.Proofs.Tryz.prog 267 #[.string x0,.string x1,.int .i64 x2] (fun (r:Option Addr)=>.pointer r) (VW x0 x1 x2):=fun w Q H=>H.elim
def Uh (x0:ByteArray) (x1:ByteArray) (x2:Int):M (Option Addr):=M.fail
theorem XZ (x0:ByteArray) (x1:ByteArray) (x2:Int):Ku Go.Proofs.Tryz.prog 268 #[.string x0,.string x1,.int .i64 x2] (fun (r:Option Addr)=>.pointer r) (Uh x0 x1 x2):=fun w Q H=>H.elim
theorem KF5:Builder.X72 Go.Proofs.Tryz.prog zS:={ sizeBuilder:=by kernel_rfl,liesBuilder:=by kernel_rfl }
def Kn (x0:Option Addr):M Unit :=
 ⟨fun h Q=>∃ b p v,x0=some ⟨b,0,none⟩∧h[b]?=some (.cells #[p,v] 82 (0,0))∧((p=.pointer (some ⟨b,0,none⟩)∧Q () h)∨(p=.pointer none∧Q () (hset h ⟨b,0,none⟩ (.pointer (some ⟨b,0,none⟩))))),
  fun hq ⟨b,p,v,h1,h2,h3⟩=>⟨b,p,v,h1,h2,h3.imp (fun ⟨a,c⟩=>⟨a,hq _ _ c⟩) (fun ⟨a,c⟩=>⟨a,hq _ _ c⟩)⟩⟩
theorem JR (x0:Option Addr):Ku Go.Proofs.Tryz.prog 102 #[.pointer x0] (fun (r:Unit)=>.tuple #[]) (Kn x0):=by
 intro w Q ⟨b,p,v,h1,h2,h3⟩
 subst h1
 have hc:w.cell? ⟨b,0,none⟩=some p:=by rw [qy]; simp [KM,h2]
 rcases h3 with ⟨rfl,hq⟩ | ⟨rfl,hq⟩
 ·refine (Any.Builder_copyCheck_used NX KF5 b w hc).mono ?_
  rintro e w' ⟨rfl,rfl⟩
  exact ⟨(),rfl,hq,Rest.refl _⟩
 ·refine (Any.Builder_copyCheck_fresh NX KF5 b w hc (by simp [World.shape?,h2]; rfl) (by simp [World.frozen?,h2])).mono ?_
  rintro e w' ⟨rfl,rfl⟩
  exact ⟨(),rfl,hq,⟨rfl,rfl,rfl,Nat.le_refl _⟩⟩
def XV (h:Heap):Prop:=∃ fz ty,h[3]?=some (.cells (Lib.pow10Tab.map fun z=>Value.int .u64 z).toArray ty fz)
def zT (x0:Int):M ByteArray :=
 ⟨fun h Q=>-9223372036854775808≤x0∧x0≤9223372036854775807∧XV h∧∀ h':Heap,h.size≤h'.size→(∀ i,i < h.size→h'[i]?=h[i]?)→Q ⟨(Lib.itoa x0).toArray⟩ h',
  fun hq ⟨h2,h3,h4,h5⟩=>⟨h2,h3,h4,fun h' a b=>hq _ _ (h5 h' a b)⟩⟩
theorem N0 (x0:Int):Ku Go.Proofs.Tryz.prog 216 #[.int .i64 x0,.int .i64 10] (fun (r:ByteArray)=>.string r) (zT x0):=by
 intro w Q ⟨h2,h3,⟨fz,ty,h4⟩,h5⟩
 refine (Any.internal_strconv_FormatInt_10 KAP x0 h2 h3 w ?_).mono ?_
 ·show w.var? Go.Proofs.Tryz.prog _=_
  have hg:Go.Proofs.Tryz.prog.globalNamed "internal/strconv.uint64pow10"=some 3:=by kernel_rfl
  simp only [World.var?,hg,Option.bind_some,h4]
 ·rintro e w' ⟨rfl,k,os,rfl⟩
  refine ⟨_,rfl,h5 _ ?_ ?_,⟨rfl,rfl,rfl,Nat.le_add_right _ _⟩⟩
  ·show w.heap.size≤(w.heap++os).size
   simp
  ·intro i hi
   show (w.heap++os)[i]?=_
   rw [Array.getElem?_append_left hi]
def N1 (h:Heap):Prop:=∃ cs ty fz,h[5]?=some (.cells cs ty fz)∧cs[15]?=some (.int .u8 4)
def Uq (x0 x1:ByteArray):M ByteArray :=
 ⟨fun h Q=>2≤x1.size∧x1.size < 4294967281∧0 < x0.size∧x0.size≤9223372036854775807∧(∀ (j:Nat) b,x1.data.toList[j]?=some b→b.toNat < 128)∧∀ h':Heap,h.size≤h'.size→(∀ i,i < h.size→h'[i]?=h[i]?)→Q ⟨(Lib.trimS x0.data.toList x1.data.toList).toArray⟩ h',
  fun hq ⟨h0,h1,h2,h3,h4,h5⟩=>⟨h0,h1,h2,h3,h4,fun h' a b=>hq _ _ (h5 h' a b)⟩⟩
theorem KAQ (x0 x1:ByteArray):Ku Go.Proofs.Tryz.prog 99 #[.string x0,.string x1] (fun (r:ByteArray)=>.string r) (Uq x0 x1):=by
 intro w Q ⟨h0,h1,h2,h3,h4,h5⟩
 have h116:(Go.Proofs.Tryz.prog.info? (166)).map (fun i=>(i.zero,i.size))=some (some (.agg (Array.replicate 256 (.bool false))),256):=by kernel_rfl
 refine (Any.strings_Trim_set KBO (zero_of_info h116).1 (zero_of_info h116).2 x0 x1 w h0 h2 h3 h1 h4).mono ?_
 rintro e w' ⟨rfl,q,rfl⟩
 refine ⟨_,rfl,h5 _ ?_ ?_,⟨rfl,rfl,rfl,Nat.le_add_right _ _⟩⟩
 ·show w.heap.size≤((w.heap.push _).push _).size
  simp; omega
 ·intro i hi
  show ((w.heap.push _).push _)[i]?=_
  rw [Array.getElem?_push,if_neg (by rw [Array.size_push]; omega),Array.getElem?_push,if_neg (by omega)]
abbrev gER:Nat:=7
end Gx
namespace Gx
open Go
set_option linter.unusedVariables false
set_option maxRecDepth 100000
def Wy (x0:Option Addr):M (Value):=do
 let Xx2←mkB WD #[.pointer x0]
 M.pure (Value.func (.func Uf) #[] #[.pointer (some Xx2)])
theorem N2 (x0:Option Addr):Ku Go.Proofs.Tryz.prog 45 #[.pointer x0] (fun (r:Value)=>r) (Wy x0) :=
 KQ [] [0] [.V] [(0,.P x0)] .o Go.Proofs.Tryz.func45 rfl rfl ⟨rfl,trivial⟩ rfl (by kernel_rfl) (by kernel_rfl)
def Z7 (C3:Option Addr):M (Bool):=do
 let Xx5←nilP C3
 let Xx6←nilP C3
 let Xx7←ldI .i64 ((Xx5).add 1)
 let Xx8←ldS ((Xx6).add 0)
 M.pure (decide (Xx7 < (Xx8.size:Int)))
def Z8 (self1:(Unit)→M (Bool)) (C24:Option Addr) (Xx23:Bool):M (Bool):=do
 M.ite Xx23 (do
  let Xx25←nilP C24
  let Xx26←ldI .i64 ((Xx25).add 1)
  let Xx27←nilP C24
  stV ((Xx27).add 1) (.int .i64 (IntKind.wrap .i64 (Xx26+1)))
  self1 ()
  ) (do
  Z7 C24
  )
def US (C9:Option Addr) (self1:(Unit)→M (Bool)):(Unit)→M (Bool):=fun s=>match s with
 | ()=>do
  let Xx13←nilP C9
  let Xx14←nilP C9
  let Xx15←ldI .i64 ((Xx13).add 1)
  let Xx16←ldS ((Xx14).add 0)
  M.ite (decide (Xx15 < (Xx16.size:Int))) (do
   let Xx18←nilP C9
   let Xx19←nilP C9
   let Xx20←ldS ((Xx18).add 0)
   let Xx21←ldI .i64 ((Xx19).add 1)
   let Xx22←ixS Xx20 Xx21
   M.ite (Xx22 == 32) (do
    Z8 self1 C9 (Xx22 == 32)
    ) (do
    Z8 self1 C9 (Xx22 == 10)
    )
   ) (do
   Z7 C9
   )
def Jg (x0:Option Addr):M (Bool):=do
 M.loop (US x0) ()
theorem WR (x0:Option Addr):Ku Go.Proofs.Tryz.prog 46 #[.pointer x0] (fun (r:Bool)=>.bool r) (Jg x0) :=
 KQ [] [0,3,7,13,17,25,32,36] [.B] [(0,.P x0)] (.q .o (.b (.q .o (.q (.b (.l [(0,.P)] [] (fun (t:Option Addr)=>US t) (fun self1=>.q (.q (.r [0,1,2,4,0,16,32,64,128,264] [0,1,2,4,0,16,32,64,128,264] [0,1,3,7,0,16,48,112,240,511] (.pu 0 (.pu 1 (.pu 2 (.pu 4 (.pu 5 (.pu 6 (.pu 3 (.pu 7 (.pu 8 (.pu 9 (.st [9] .dn)))))))))))) .o) (.b (.q (.r [0,1,2,4,0,16,32,64,136] [0,1,2,4,0,16,32,64,136] [0,1,3,7,0,16,48,112,255] (.pu 0 (.pu 1 (.pu 2 (.pu 4 (.pu 5 (.pu 6 (.pu 3 (.pu 7 (.pu 8 (.st [8] .dn))))))))))) (.b (.q .o (.j [(0,.P),(22,.B)] (fun (t:Option Addr × Bool)=>Z8 self1 t.1 t.2) .o)))))))) (.j [(0,.P)] (fun (t:Option Addr)=>Z7 t) (.q (.r [0,1,2,4,0,16,32,64,128,264,1023] [0,1,2,4,0,16,32,64,128,264,512] [0,1,3,7,0,16,48,112,240,511,1023] (.pu 0 (.pu 1 (.pu 2 (.pu 4 (.pu 5 (.pu 6 (.pu 3 (.pu 7 (.pu 8 (.pu 9 (.pu 10 (.st [9,10] .dn))))))))))))) .o)))))) Go.Proofs.Tryz.func46 rfl rfl ⟨rfl,trivial⟩ rfl (by kernel_rfl) (by kernel_rfl)
theorem KK9:KAB Go.Proofs.Tryz.f13 8 [[],[0],[],[1,2,0,1,2],[3,0,1,2,3]] [[],[0],[],[1],[]] [[],[0],[],[0,1,2],[0,1,2,3]]=true:=by kernel_rfl
def X7 (C21:Addr) (C22:Addr) (C23:Addr) (C24:Addr) (lp1:Nat):(Array Value)→M Nat:=fun x=>match x with
 | Xx25=>do
  let Xx26←mkB KR (#[.int .i64 0,.string ByteArray.empty,.int .i64 0,.int .i64 0]:Array Value)
  M.need (Xx25.size=4)
  stG Xx26 Xx25
  let _←beg lp1
  let Xx30←ldL C24
  M.ite ((Xx30.len:Int) == 4096) (do
   let Xx32←ldI .i64 ((Xx26).add 3)
   stV C21 ((Sl.nil:Sl).v)
   chk (fun h:Heap=>(KM h ((Xx26).add 3)=some (.int .i64 Xx32)))
   stV C22 (.int .i64 Xx32)
   stV C23 (.int .i64 3)
   M.pure 1
   ) (do
   let Xx36←ldL C24
   let Xx37←ldG 4 Xx26
   let y_39←KAz 4 1 (#[.int .i64 0,.string ByteArray.empty,.int .i64 0,.int .i64 0]:Array Value) [(0,.agg Xx37)]
   let Xx38←bdL KR 1 y_39
   let Xx40←apL KR 4 40 (#[.int .i64 0,.string ByteArray.empty,.int .i64 0,.int .i64 0]:Array Value) Xx36 Xx38
   stV C24 ((Xx40:Sl).v)
   M.pure 0
   )
theorem KJd:KAB Go.Proofs.Tryz.f13 11 [[],[0],[1],[2],[],[3,4,0,1,2,3,4],[5,0,1,2,3,4,5]] [[],[0],[1],[2],[],[3],[]] [[],[0],[0,1],[0,1,2],[],[0,1,2,3,4],[0,1,2,3,4,5]]=true:=by kernel_rfl
def XG (x0:ByteArray):M (Sl × Int × Int):=do
 let Xx2←mkB Js (#[.slice none 0 0]:Array Value)
 let Xx3←mkB XT (#[.int .i64 0]:Array Value)
 let Xx4←mkB qR (#[.int .i64 0]:Array Value)
 M.ite (decide ((x0.size:Int) > 16384)) (do
  stV Xx2 ((Sl.nil:Sl).v)
  stV Xx3 (.int .i64 0)
  stV Xx4 (.int .i64 3)
  let _←shut ([])
  let Rr11←ldL Xx2
  let Rr12←ldI .i64 Xx3
  let Rr13←ldI .i64 Xx4
  M.pure (Rr11,Rr12,Rr13)
  ) (do
  let Xx15←mkB GU (#[.string x0,.int .i64 0]:Array Value)
  let Xx17←mkB Js (#[.slice none 0 0]:Array Value)
  let Xx20←Wy (some Xx15)
  let j_42←rgF Go.Proofs.Tryz.prog (fun x:Array Value=>[.agg x]) [.ret] (X7 Xx2 Xx3 Xx4 Xx17) Xx20
  M.ite (decide (j_42.1=1)) (do
   let _←shut (j_42.2::[])
   let Rr43←ldL Xx2
   let Rr44←ldI .i64 Xx3
   let Rr45←ldI .i64 Xx4
   M.pure (Rr43,Rr44,Rr45)
   ) (do
   let Xx48←Jg (some Xx15)
   M.ite Xx48 (do
    let Xx50←nilP (some Xx15)
    let Xx51←ldI .i64 ((Xx50).add 1)
    stV Xx2 ((Sl.nil:Sl).v)
    chk (fun h:Heap=>(KM h ((Xx50).add 1)=some (.int .i64 Xx51)))
    stV Xx3 (.int .i64 Xx51)
    stV Xx4 (.int .i64 150)
    let _←shut (j_42.2::[])
    let Rr55←ldL Xx2
    let Rr56←ldI .i64 Xx3
    let Rr57←ldI .i64 Xx4
    M.pure (Rr55,Rr56,Rr57)
    ) (do
    let Xx59←ldL Xx17
    stV Xx2 ((Xx59:Sl).v)
    stV Xx3 (.int .i64 (x0.size:Int))
    stV Xx4 (.int .i64 0)
    let _←shut (j_42.2::[])
    let Rr63←ldL Xx2
    let Rr64←ldI .i64 Xx3
    let Rr65←ldI .i64 Xx4
    M.pure (Rr63,Rr64,Rr65)
    )
   )
  )
theorem KF6 (x0:ByteArray):Ku Go.Proofs.Tryz.prog 13 #[.string x0] (fun (r:Sl × Int × Int)=>.tuple #[(r.1:Sl).v,.int .i64 r.2.1,.int .i64 r.2.2]) (XG x0):=by
 refine KFs [(0,.string x0)] Go.Proofs.Tryz.func13 rfl rfl (Nat.le_of_ble_eq_true rfl) (VP ⟨rfl,trivial⟩) (fun w0 w Q R a hret hE hR H=>?_)
 unfold XG at H
 refine KW (fun K hK_1=>?_)
 refine KD ?_
 obtain ⟨Xx2,qXx2,H⟩:=H
 refine Wu (v:=.pointer (some Xx2)) rfl rfl hE rfl hR (Uc zr22 qXx2) (fun a w hE hR hh=>?_)
 replace H:=M.at hh H; clear hh
 obtain ⟨Xx3,qXx3,H⟩:=H
 refine Wu (v:=.pointer (some Xx3)) rfl rfl hE rfl hR (Uc zr3 qXx3) (fun a w hE hR hh=>?_)
 replace H:=M.at hh H; clear hh
 obtain ⟨Xx4,qXx4,H⟩:=H
 refine Wu (v:=.pointer (some Xx4)) rfl rfl hE rfl hR (Uc zr23 qXx4) (fun a w hE hR hh=>?_)
 replace H:=M.at hh H; clear hh
 refine KV ?_
 refine hK_1 _ _ ?_
 refine KW (fun K hK_5=>?_)
 refine KW (fun K hK_6=>?_)
 refine KD ?_
 refine KC (v:=.string x0) rfl rfl hE rfl (KE hE rfl) (fun a hE=>?_)
 refine KC (v:=.int .i64 (x0.size:Int)) rfl rfl hE rfl (Wt hE rfl un9) (fun a hE=>?_)
 refine KC (v:=.bool (decide ((x0.size:Int) > 16384))) rfl rfl hE rfl (ZC hE rfl rfl Kz KBy) (fun a hE=>?_)
 refine KV ?_
 refine hK_6 _ _ ?_
 refine Z6 (decide ((x0.size:Int) > 16384)) hE rfl (fun hb=>?_) (fun hb=>?_)
 ·replace H:=M.ite_t hb H
  refine KW (fun K hK_7=>?_)
  refine KD ?_
  obtain ⟨u_8,qu_8,H⟩:=H
  refine UK rfl rfl hE hR (ZZ hE rfl rfl sz22 qu_8) (fun a w hE hR hh=>?_)
  replace H:=M.at hh H; clear hh
  obtain ⟨u_9,qu_9,H⟩:=H
  refine UK rfl rfl hE hR (ZZ hE rfl rfl sz3 qu_9) (fun a w hE hR hh=>?_)
  replace H:=M.at hh H; clear hh
  obtain ⟨u_10,qu_10,H⟩:=H
  refine UK rfl rfl hE hR (ZZ hE rfl rfl sz23 qu_10) (fun a w hE hR hh=>?_)
  replace H:=M.at hh H; clear hh
  refine KV ?_
  refine hK_7 _ _ ?_
  refine Ve ?_
  refine hret _ _ _ _ _ hE hR (M.unbind H) (fun w hR H=>?_)
  obtain ⟨Rr11,qRr11,H⟩:=H
  obtain ⟨Rr12,qRr12,H⟩:=H
  obtain ⟨Rr13,qRr13,H⟩:=H
  exact ⟨(Rr11,Rr12,Rr13),_,Zq hE rfl (RV.cell rfl sc22 qRr11 (RV.cell rfl sc3 qRr12 (RV.cell rfl sc23 qRr13 RV.nil))),rfl,H⟩
 ·replace H:=M.ite_f hb H
  refine Jp ?_
  refine hK_5 _ _ ?_
  refine KW (fun K hK_14=>?_)
  refine KD ?_
  refine KC (v:=.string x0) rfl rfl hE rfl (KE hE rfl) (fun a hE=>?_)
  refine KC (v:=.agg (#[.string x0,.int .i64 0]:Array Value)) rfl rfl hE rfl (Y5 hE rfl zr70 pl70 (by rfl)) (fun a hE=>?_)
  obtain ⟨Xx15,qXx15,H⟩:=H
  refine Wu (v:=.pointer (some Xx15)) rfl rfl hE rfl hR (KIq hE rfl qXx15) (fun a w hE hR hh=>?_)
  replace H:=M.at hh H; clear hh
  refine KC (v:=.pointer (some Xx15)) rfl rfl hE rfl (KZ hE rfl) (fun a hE=>?_)
  refine KV ?_
  refine hK_14 _ _ ?_
  refine KW (fun K hK_16=>?_)
  refine KD ?_
  obtain ⟨Xx17,qXx17,H⟩:=H
  refine Wu (v:=.pointer (some Xx17)) rfl rfl hE rfl hR (Uc zr22 qXx17) (fun a w hE hR hh=>?_)
  replace H:=M.at hh H; clear hh
  refine KV ?_
  refine hK_16 _ _ ?_
  refine KW (fun K hK_18=>?_)
  refine KW (fun K hK_19=>?_)
  refine KD ?_
  refine KC (v:=.pointer (some Xx15)) rfl rfl hE rfl (KE hE rfl) (fun a hE=>?_)
  refine J5 hE hR NR rfl (N2 (some Xx15)) (M.unbind H) (fun Xx20 a w ea hR H=>?_)
  have hE:=Env.put_some hE rfl ea; clear ea
  refine KV ?_
  refine hK_19 _ _ ?_
  refine V7 ?_
  refine KHS (js:=[.ret]) (enc:=(fun x:Array Value=>[.agg x])) (Y:=(X7 Xx2 Xx3 Xx4 Xx17)) hE hR rfl (fun x=>rfl) rfl (M.unbind H) (fun lp1 Xx25 Q w0 Rr hfin a w hE hR H=>?_) (fun j_42 a w hE hR H=>?_)
  ·skip
   replace hE:Env (⟨35,[]⟩:Frm) a [(2,.pointer (some Xx2)),(3,.pointer (some Xx3)),(4,.pointer (some Xx4)),(6,.pointer (some Xx17)),(16,.agg Xx25)]:=Env.cut hE (.cons rfl (.cons rfl (.cons rfl (.cons rfl (.cons rfl Subs.nil)))))
   replace H:(X7 Xx2 Xx3 Xx4 Xx17 lp1 Xx25).wp w.heap Q:=H
   unfold X7 at H
   refine KD ?_
   obtain ⟨Xx26,qXx26,H⟩:=H
   refine Wu (v:=.pointer (some Xx26)) rfl rfl hE rfl hR (Uc zr29 qXx26) (fun a w hE hR hh=>?_)
   replace H:=M.at hh H; clear hh
   obtain ⟨qz,H⟩:=H
   obtain ⟨u_27,qu_27,H⟩:=H
   refine UK rfl rfl hE hR (Z4 hE rfl rfl sz29 qz qu_27) (fun a w hE hR hh=>?_)
   replace H:=M.at hh H; clear hh
   refine KV ?_
   refine KLo hR H (fun w hR H=>?_)
   refine V7 ?_
   refine KW (fun K hK_28=>?_)
   refine KW (fun K hK_29=>?_)
   refine KD ?_
   obtain ⟨Xx30,qXx30,H⟩:=H
   refine KC (v:=(Xx30:Sl).v) rfl rfl hE rfl (ZA hE rfl sc22 qXx30) (fun a hE=>?_)
   refine KC (v:=.int .i64 (Xx30.len:Int)) rfl rfl hE rfl (KIr hE rfl 29 un22) (fun a hE=>?_)
   refine KC (v:=.bool ((Xx30.len:Int) == 4096)) rfl rfl hE rfl (ZC hE rfl rfl Kz Yj) (fun a hE=>?_)
   refine KV ?_
   refine hK_29 _ _ ?_
   refine Z6 ((Xx30.len:Int) == 4096) hE rfl (fun hb=>?_) (fun hb=>?_)
   ·replace H:=M.ite_t hb H
    refine KW (fun K hK_31=>?_)
    obtain ⟨Xx32,qXx32,H⟩:=H
    have hT:=Wv KK9 rfl rfl
    refine Ue (fun w:World=>(fun h:Heap=>(KM h ((Xx26).add 3)=some (.int .i64 Xx32))) w.heap) [3,4] #[false,false,false,false,false] mo hR rfl rfl (fun w' e=>by rw [e]; exact qXx32) (fun w hh hR hs=>?_)
    replace H:=M.at hh H; clear hh
    refine KB (i:=0) (v:=.pointer (some ((Xx26).add 3))) #[true,false,false,false,false] rfl rfl hT (by kernel_rfl) hE rfl (KA rfl) (fun w=>KH hE rfl KIZ) (fun a hE=>?_)
    refine Je (i:=1) (v:=.int .i64 Xx32) #[true,true,false,false,false] rfl rfl hT (by kernel_rfl) hE rfl (KA rfl) hs (fun w s=>ZA hE rfl sc3 s) (fun a hE=>?_)
    obtain ⟨u_33,qu_33,H⟩:=H
    obtain ⟨_,sA,H⟩:=H
    refine KI0 (i:=2) #[true,true,true,false,false] rfl rfl hT (by kernel_rfl) rfl hE hR (KA rfl) (ZZ hE rfl rfl sz22 qu_33)  (fun w' e=>by rw [e]; exact sA) (fun a w hE hR hh hs=>?_)
    replace H:=M.at hh H; clear hh
    obtain ⟨u_34,qu_34,H⟩:=H
    refine zC (i:=3) #[true,true,true,true,false] rfl rfl hT (by kernel_rfl) rfl hE hR (KA rfl) (ZZ hE rfl rfl sz3 qu_34)  (fun a w hE hR hh=>?_)
    replace H:=M.at hh H; clear hh
    obtain ⟨u_35,qu_35,H⟩:=H
    refine zC (i:=4) #[true,true,true,true,true] rfl rfl hT (by kernel_rfl) rfl hE hR (KA rfl) (ZZ hE rfl rfl sz23 qu_35)  (fun a w hE hR hh=>?_)
    replace H:=M.at hh H; clear hh
    refine WO hT (by kernel_rfl) ?_
    refine hK_31 _ _ ?_
    refine Ve ?_
    exact ⟨0,rfl,hfin 1 _ _ hR H⟩
   ·replace H:=M.ite_f hb H
    refine Jp ?_
    refine hK_28 _ _ ?_
    refine KD ?_
    obtain ⟨Xx36,qXx36,H⟩:=H
    refine KC (v:=(Xx36:Sl).v) rfl rfl hE rfl (ZA hE rfl sc22 qXx36) (fun a hE=>?_)
    obtain ⟨Xx37,qXx37,H⟩:=H
    refine KC (v:=.agg Xx37) rfl rfl hE rfl (Nu hE rfl ag29 qXx37) (fun a hE=>?_)
    obtain ⟨y_39,qy_39,H⟩:=H
    obtain ⟨Xx38,qXx38,H⟩:=H
    refine Wu (v:=(Xx38:Sl).v) rfl rfl hE rfl hR (X4 hE rfl un22 sz29 zr29 rfl qy_39 qXx38) (fun a w hE hR hh=>?_)
    replace H:=M.at hh H; clear hh
    refine t_ex (fun Xx40=>(Xx40:Sl).v) rfl rfl hR (M.unbind H) (fun Q H=>KB4 hE rfl rfl ap22 H) (fun Xx40 a w ea hR H=>?_)
    have hE:=Env.put_some hE rfl ea; clear ea
    obtain ⟨u_41,qu_41,H⟩:=H
    refine UK rfl rfl hE hR (ZZ hE rfl rfl sz22 qu_41) (fun a w hE hR hh=>?_)
    replace H:=M.at hh H; clear hh
    refine KV ?_
    exact hfin 0 _ _ hR H
  ·skip
   replace hE:Env (⟨35,(j_42.2::[])⟩:Frm) a [(0,.string x0),(2,.pointer (some Xx2)),(3,.pointer (some Xx3)),(4,.pointer (some Xx4)),(5,.pointer (some Xx15)),(6,.pointer (some Xx17))]:=Env.cut hE (.cons rfl (.cons rfl (.cons rfl (.cons rfl (.cons rfl (.cons rfl Subs.nil))))))
   refine KHQ (fun hj=>?_) (fun hj=>?_)
   ·replace H:=M.ite_t (decide_eq_true hj) H
    refine Ve ?_
    refine hret _ _ _ _ _ hE hR (M.unbind H) (fun w hR H=>?_)
    obtain ⟨Rr43,qRr43,H⟩:=H
    obtain ⟨Rr44,qRr44,H⟩:=H
    obtain ⟨Rr45,qRr45,H⟩:=H
    exact ⟨(Rr43,Rr44,Rr45),_,Zq hE rfl (RV.cell rfl sc22 qRr43 (RV.cell rfl sc3 qRr44 (RV.cell rfl sc23 qRr45 RV.nil))),rfl,H⟩
   ·replace H:=M.ite_f (decide_eq_false hj) H
    refine KJH ?_
    refine hK_18 _ _ ?_
    refine KW (fun K hK_46=>?_)
    refine KW (fun K hK_47=>?_)
    refine KD ?_
    refine KC (v:=.pointer (some Xx15)) rfl rfl hE rfl (KE hE rfl) (fun a hE=>?_)
    refine J5 hE hR Vo rfl (WR (some Xx15)) (M.unbind H) (fun Xx48 a w ea hR H=>?_)
    have hE:=Env.put_some hE rfl ea; clear ea
    refine KV ?_
    refine hK_47 _ _ ?_
    refine Z6 Xx48 hE rfl (fun hb=>?_) (fun hb=>?_)
    ·replace H:=M.ite_t hb H
     refine KW (fun K hK_49=>?_)
     obtain ⟨Xx50,qXx50,H⟩:=H
     obtain ⟨Xx51,qXx51,H⟩:=H
     have hT:=Wv KJd rfl rfl
     refine Ue (fun w:World=>(fun h:Heap=>(KM h ((Xx50).add 1)=some (.int .i64 Xx51))) w.heap) [5,6] #[false,false,false,false,false,false,false] mo hR rfl rfl (fun w' e=>by rw [e]; exact qXx51) (fun w hh hR hs=>?_)
     replace H:=M.at hh H; clear hh
     refine KB (i:=0) (v:=.pointer (some Xx15)) #[true,false,false,false,false,false,false] rfl rfl hT (by kernel_rfl) hE rfl (KA rfl) (fun w=>KE hE rfl) (fun a hE=>?_)
     refine KB (i:=1) (v:=.pointer (some Xx50)) #[true,true,false,false,false,false,false] rfl rfl hT (by kernel_rfl) hE rfl (KA rfl) (fun w=>KJ hE (Zr rfl (congrArg Value.pointer qXx50))) (fun a hE=>?_)
     refine KB (i:=2) (v:=.pointer (some ((Xx50).add 1))) #[true,true,true,false,false,false,false] rfl rfl hT (by kernel_rfl) hE rfl (KA rfl) (fun w=>KH hE rfl KCN) (fun a hE=>?_)
     refine Je (i:=3) (v:=.int .i64 Xx51) #[true,true,true,true,false,false,false] rfl rfl hT (by kernel_rfl) hE rfl (KA rfl) hs (fun w s=>ZA hE rfl sc3 s) (fun a hE=>?_)
     obtain ⟨u_52,qu_52,H⟩:=H
     obtain ⟨_,sA,H⟩:=H
     refine KI0 (i:=4) #[true,true,true,true,true,false,false] rfl rfl hT (by kernel_rfl) rfl hE hR (KA rfl) (ZZ hE rfl rfl sz22 qu_52)  (fun w' e=>by rw [e]; exact sA) (fun a w hE hR hh hs=>?_)
     replace H:=M.at hh H; clear hh
     obtain ⟨u_53,qu_53,H⟩:=H
     refine zC (i:=5) #[true,true,true,true,true,true,false] rfl rfl hT (by kernel_rfl) rfl hE hR (KA rfl) (ZZ hE rfl rfl sz3 qu_53)  (fun a w hE hR hh=>?_)
     replace H:=M.at hh H; clear hh
     obtain ⟨u_54,qu_54,H⟩:=H
     refine zC (i:=6) #[true,true,true,true,true,true,true] rfl rfl hT (by kernel_rfl) rfl hE hR (KA rfl) (ZZ hE rfl rfl sz23 qu_54)  (fun a w hE hR hh=>?_)
     replace H:=M.at hh H; clear hh
     refine WO hT (by kernel_rfl) ?_
     refine hK_49 _ _ ?_
     refine Ve ?_
     refine hret _ _ _ _ _ hE hR (M.unbind H) (fun w hR H=>?_)
     obtain ⟨Rr55,qRr55,H⟩:=H
     obtain ⟨Rr56,qRr56,H⟩:=H
     obtain ⟨Rr57,qRr57,H⟩:=H
     exact ⟨(Rr55,Rr56,Rr57),_,Zq hE rfl (RV.cell rfl sc22 qRr55 (RV.cell rfl sc3 qRr56 (RV.cell rfl sc23 qRr57 RV.nil))),rfl,H⟩
    ·replace H:=M.ite_f hb H
     refine Jp ?_
     refine hK_46 _ _ ?_
     refine KW (fun K hK_58=>?_)
     refine KD ?_
     obtain ⟨Xx59,qXx59,H⟩:=H
     refine KC (v:=(Xx59:Sl).v) rfl rfl hE rfl (ZA hE rfl sc22 qXx59) (fun a hE=>?_)
     refine KC (v:=.string x0) rfl rfl hE rfl (KE hE rfl) (fun a hE=>?_)
     refine KC (v:=.int .i64 (x0.size:Int)) rfl rfl hE rfl (Wt hE rfl un9) (fun a hE=>?_)
     obtain ⟨u_60,qu_60,H⟩:=H
     refine UK rfl rfl hE hR (ZZ hE rfl rfl sz22 qu_60) (fun a w hE hR hh=>?_)
     replace H:=M.at hh H; clear hh
     obtain ⟨u_61,qu_61,H⟩:=H
     refine UK rfl rfl hE hR (ZZ hE rfl rfl sz3 qu_61) (fun a w hE hR hh=>?_)
     replace H:=M.at hh H; clear hh
     obtain ⟨u_62,qu_62,H⟩:=H
     refine UK rfl rfl hE hR (ZZ hE rfl rfl sz23 qu_62) (fun a w hE hR hh=>?_)
     replace H:=M.at hh H; clear hh
     refine KV ?_
     refine hK_58 _ _ ?_
     refine Ve ?_
     refine hret _ _ _ _ _ hE hR (M.unbind H) (fun w hR H=>?_)
     obtain ⟨Rr63,qRr63,H⟩:=H
     obtain ⟨Rr64,qRr64,H⟩:=H
     obtain ⟨Rr65,qRr65,H⟩:=H
     exact ⟨(Rr63,Rr64,Rr65),_,Zq hE rfl (RV.cell rfl sc22 qRr63 (RV.cell rfl sc3 qRr64 (RV.cell rfl sc23 qRr65 RV.nil))),rfl,H⟩
noncomputable def KCO:CalleeS Go.Proofs.Tryz.prog:=mkC KE1 KE2 [.S] [.L,.I .i64,.I .i64] (fun (t:ByteArray)=>XG t) (fun (t:ByteArray)=>KF6 t)
end Gx
namespace Gx
open Go
set_option linter.unusedVariables false
set_option maxRecDepth 100000
def Jt :M (Bool):=do
 let Xx3←XG (⟨#[103,46,86,40,49,41]⟩:ByteArray)
 let Xx5←M.ite ((Xx3.1.len:Int) == 6) (do
  let Xx6←ixL Xx3.1 4 4
  let Xx7←ldG 4 Xx6
  let Xx8←eqS [.I .i64,.S,.I .i64,.I .i64] Xx7 (#[.int .i64 2,.string ByteArray.empty,.int .i64 1,.int .i64 4]:Array Value)
  M.pure Xx8
  ) (do
  M.pure false
  )
 let Xx9←M.ite Xx5 (do
  M.pure (Xx3.2.1 == 6)
  ) (do
  M.pure false
  )
 let Xx10←M.ite Xx9 (do
  M.pure (Xx3.2.2 == 0)
  ) (do
  M.pure false
  )
 M.pure Xx10
theorem Gj :Ku Go.Proofs.Tryz.prog 15 #[] (fun (r:Bool)=>.bool r) (Jt ) :=
 KQ [KCO] [] [.B] [] .o Go.Proofs.Tryz.func15 rfl rfl trivial rfl (by kernel_rfl) (by kernel_rfl)
noncomputable def Gk:CalleeS Go.Proofs.Tryz.prog:=mkC GF GL [] [.B] (fun (t:Unit)=>Jt) (fun (t:Unit)=>Gj)
def Yn (x0:ByteArray):M (Bool):=do
 let Xx4←M.ite (sEq x0 ByteArray.empty) (do
  M.pure true
  ) (do
  M.pure (decide ((x0.size:Int) > 24))
  )
 let Xx5←M.ite Xx4 (do
  M.pure true
  ) (do
  let Xx6←ixS x0 0
  let Xx7←M.ite (decide (Xx6 ≥ 48)) (do
   let Xx8←ixS x0 0
   M.pure (decide (Xx8≤57))
   ) (do
   M.pure false
   )
  M.pure Xx7
  )
 M.ite Xx5 (do
  M.pure false
  ) (do
  let Xx11←Uq x0 (⟨#[97,98,99,100,101,102,103,104,105,106,107,108,109,110,111,112,113,114,115,116,117,118,119,120,121,122,65,66,67,68,69,70,71,72,73,74,75,76,77,78,79,80,81,82,83,84,85,86,87,88,89,90,48,49,50,51,52,53,54,55,56,57,95]⟩:ByteArray)
  M.pure (sEq Xx11 ByteArray.empty)
  )
theorem KCP (x0:ByteArray):Ku Go.Proofs.Tryz.prog 53 #[.string x0] (fun (r:Bool)=>.bool r) (Yn x0) :=
 KQ [mkC zN zR [.S,.S] [.S] (fun (t:ByteArray × ByteArray)=>Uq t.1 t.2) (fun (t:ByteArray × ByteArray)=>KAQ t.1 t.2)] [] [.B] [(0,.S x0)] .o Go.Proofs.Tryz.func53 rfl rfl ⟨rfl,trivial⟩ rfl (by kernel_rfl) (by kernel_rfl)
noncomputable def KCQ:CalleeS Go.Proofs.Tryz.prog:=mkC KBD KBJ [.S] [.B] (fun (t:ByteArray)=>Yn t) (fun (t:ByteArray)=>KCP t)
def Za (x0:ByteArray) (x1:Int):M (Int):=do
 let Xx3←K0 x0 x1
 M.pure Xx3
theorem Um (x0:ByteArray) (x1:Int):Ku Go.Proofs.Tryz.prog 100 #[.string x0,.int .u8 x1] (fun (r:Int)=>.int .i64 r) (Za x0 x1) :=
 KQ [mkC Ux Uz [.S,.I .u8] [.I .i64] (fun (t:ByteArray × Int)=>K0 t.1 t.2) (fun (t:ByteArray × Int)=>VM t.1 t.2)] [] [.I .i64] [(0,.S x0),(1,.I .u8 x1)] .o Go.Proofs.Tryz.func100 rfl rfl ⟨rfl,rfl,trivial⟩ rfl (by kernel_rfl) (by kernel_rfl)
noncomputable def Gl:CalleeS Go.Proofs.Tryz.prog:=mkC GI Ug [.S,.I .u8] [.I .i64] (fun (t:ByteArray × Int)=>Za t.1 t.2) (fun (t:ByteArray × Int)=>Um t.1 t.2)
def Wp (x0:Int):M (Bool):=do
 let Xx3←Za (⟨#[46,40,41,44,91,93,123,125,58,61,59]⟩:ByteArray) x0
 M.pure (decide (Xx3 ≥ 0))
theorem KCR (x0:Int):Ku Go.Proofs.Tryz.prog 54 #[.int .u8 x0] (fun (r:Bool)=>.bool r) (Wp x0) :=
 KQ [Gl] [] [.B] [(0,.I .u8 x0)] .o Go.Proofs.Tryz.func54 rfl rfl ⟨rfl,trivial⟩ rfl (by kernel_rfl) (by kernel_rfl)
noncomputable def qV:CalleeS Go.Proofs.Tryz.prog:=mkC KBB KBH [.I .u8] [.B] (fun (t:Int)=>Wp t) (fun (t:Int)=>KCR t)
def Jy (Xx12:Bool):M (Int):=do
 M.ite (!Xx12) (do
  M.pure 150
  ) (do
  M.pure 0
  )
def U1 (x0:Array Value):M (Int):=do
 let Xx2←mkB KR x0
 let Xx5←ldI .i64 ((Xx2).add 3)
 let Xx6←M.ite (decide (Xx5 < 0)) (do
  M.pure true
  ) (do
  let Xx7←ldI .i64 ((Xx2).add 2)
  let Xx8←M.ite (Xx7 != 0) (do
   let Xx9←ldI .i64 ((Xx2).add 0)
   M.pure (Xx9 != 2)
   ) (do
   M.pure false
   )
  M.pure Xx8
  )
 M.ite Xx6 (do
  M.pure 150
  ) (do
  let Xx18←ldI .i64 ((Xx2).add 0)
  M.ite (Xx18 == 1) (do
   let Xx20←ldS ((Xx2).add 1)
   let Xx21←Yn Xx20
   Jy Xx21
   ) (do
   M.ite (Xx18 == 2) (do
    let Xx23←ldS ((Xx2).add 1)
    Jy (sEq Xx23 ByteArray.empty)
    ) (do
    M.ite (Xx18 == 3) (do
     let Xx25←ldS ((Xx2).add 1)
     Jy (decide ((Xx25.size:Int)≤128))
     ) (do
     M.ite (Xx18 == 4) (do
      let Xx27←ldS ((Xx2).add 1)
      let Xx28←M.ite ((Xx27.size:Int) == 1) (do
       let Xx29←ldS ((Xx2).add 1)
       let Xx30←ixS Xx29 0
       let Xx31←Wp Xx30
       M.pure Xx31
       ) (do
       M.pure false
       )
      Jy Xx28
      ) (do
      Jy false
      )
     )
    )
   )
  )
theorem zU (x0:Array Value):Ku Go.Proofs.Tryz.prog 22 #[.agg x0] (fun (r:Int)=>.int .i64 r) (U1 x0) :=
 KQ [KCQ,qV] [] [.I .i64] [(0,.G x0)] (.q .o (.q .o (.q .o (.q .o (.j [(3,.B)] (fun (t:Bool)=>Jy t) .o))))) Go.Proofs.Tryz.func22 rfl rfl ⟨rfl,trivial⟩ rfl (by kernel_rfl) (by kernel_rfl)
noncomputable def Gm:CalleeS Go.Proofs.Tryz.prog:=mkC KCC qS [.G] [.I .i64] (fun (t:Array Value)=>U1 t) (fun (t:Array Value)=>zU t)
def Zb (x0:Int) (x1:Int):M (ByteArray):=do
 let Xx3←KAq Go.Proofs.Tryz.prog JF #[.int .i64 x0,.int .i64 x1] (fun r:ByteArray=>.string r)
 M.pure Xx3
theorem Gn (x0:Int) (x1:Int):Ku Go.Proofs.Tryz.prog 188 #[.int .i64 x0,.int .i64 x1] (fun (r:ByteArray)=>.string r) (Zb x0 x1) :=
 KQ [mkC JF WE [.I .i64,.I .i64] [.S] (fun (t:Int × Int)=>KAq Go.Proofs.Tryz.prog JF #[.int .i64 t.1,.int .i64 t.2] (fun r:ByteArray=>.string r)) (fun (t:Int × Int)=>Y2)] [] [.S] [(0,.I .i64 x0),(1,.I .i64 x1)] .o Go.Proofs.Tryz.func188 rfl rfl ⟨rfl,rfl,trivial⟩ rfl (by kernel_rfl) (by kernel_rfl)
noncomputable def Wz:CalleeS Go.Proofs.Tryz.prog:=mkC GG GM [.I .i64,.I .i64] [.S] (fun (t:Int × Int)=>Zb t.1 t.2) (fun (t:Int × Int)=>Gn t.1 t.2)
def XH (x0:Int):M (ByteArray):=do
 let Xx3←Zb x0 10
 M.pure Xx3
theorem KE3 (x0:Int):Ku Go.Proofs.Tryz.prog 130 #[.int .i64 x0] (fun (r:ByteArray)=>.string r) (XH x0) :=
 KQ [Wz] [] [.S] [(0,.I .i64 x0)] .o Go.Proofs.Tryz.func130 rfl rfl ⟨rfl,trivial⟩ rfl (by kernel_rfl) (by kernel_rfl)
noncomputable def KE4:CalleeS Go.Proofs.Tryz.prog:=mkC KDF KDJ [.I .i64] [.S] (fun (t:Int)=>XH t) (fun (t:Int)=>KE3 t)
def KY (x0:Option Addr) (x1:Int):M (Value):=do
 let Xx3←Kn x0
 let Xx5←nilP x0
 let Xx6←ldL ((Xx5).add 1)
 let Xx7←bdL Kp 1 #[.int .u8 x1]
 let Xx8←apL Kp 1 1 (#[.int .u8 0]:Array Value) Xx6 Xx7
 let Xx9←nilP x0
 stV ((Xx9).add 1) ((Xx8:Sl).v)
 M.pure Value.nilIface
theorem W8 (x0:Option Addr) (x1:Int):Ku Go.Proofs.Tryz.prog 59 #[.pointer x0,.int .u8 x1] (fun (r:Value)=>r) (KY x0 x1) :=
 KQ [mkC JO JP [.P] [] (fun (t:Option Addr)=>Kn t) (fun (t:Option Addr)=>JR t)] [0,5,7,8] [.V] [(0,.P x0),(1,.I .u8 x1)] .o Go.Proofs.Tryz.func59 rfl rfl ⟨rfl,rfl,trivial⟩ rfl (by kernel_rfl) (by kernel_rfl)
noncomputable def UT:CalleeS Go.Proofs.Tryz.prog:=mkC WY Wd [.P,.I .u8] [.V] (fun (t:Option Addr × Int)=>KY t.1 t.2) (fun (t:Option Addr × Int)=>W8 t.1 t.2)
def KS (x0:Option Addr) (x1:ByteArray):M (Int × Value):=do
 let Xx3←Kn x0
 let Xx5←nilP x0
 let Xx6←ldL ((Xx5).add 1)
 let Xx7←apS Kp Xx6 x1
 let Xx8←nilP x0
 stV ((Xx8).add 1) ((Xx7:Sl).v)
 M.pure ((x1.size:Int),Value.nilIface)
theorem WK (x0:Option Addr) (x1:ByteArray):Ku Go.Proofs.Tryz.prog 60 #[.pointer x0,.string x1] (fun (r:Int × Value)=>.tuple #[.int .i64 r.1,r.2]) (KS x0 x1) :=
 KQ [mkC JO JP [.P] [] (fun (t:Option Addr)=>Kn t) (fun (t:Option Addr)=>JR t)] [0,6,8,9] [.I .i64,.V] [(0,.P x0),(1,.S x1)] .o Go.Proofs.Tryz.func60 rfl rfl ⟨rfl,rfl,trivial⟩ rfl (by kernel_rfl) (by kernel_rfl)
noncomputable def JG:CalleeS Go.Proofs.Tryz.prog:=mkC Vk Vp [.P,.S] [.I .i64,.V] (fun (t:Option Addr × ByteArray)=>KS t.1 t.2) (fun (t:Option Addr × ByteArray)=>WK t.1 t.2)
def ZE (x0:Option Addr):M (ByteArray):=do
 let Xx3←nilP x0
 let Xx4←nilP x0
 let Xx5←ldL ((Xx3).add 1)
 let Xx6←ldL ((Xx4).add 1)
 let Xx7←uSD Xx5
 let Xx8←uStr Kp Xx7 (Xx6.len:Int)
 M.pure Xx8
theorem Yo (x0:Option Addr):Ku Go.Proofs.Tryz.prog 61 #[.pointer x0] (fun (r:ByteArray)=>.string r) (ZE x0) :=
 KQ [] [0,3,7,8] [.S] [(0,.P x0)] (.q .o (.q (.r [0,1,2,4,8,0,32,64,128,256,528,2047] [0,1,2,4,8,0,32,64,128,256,528,1024] [0,1,3,7,15,0,32,96,224,480,1023,2047] (.pu 0 (.pu 1 (.pu 2 (.pu 5 (.pu 6 (.pu 7 (.pu 3 (.pu 8 (.pu 9 (.st [10,11] (.on 4 (.on 10 (.pu 11 (.nx .dn))))))))))))))) .o)) Go.Proofs.Tryz.func61 rfl rfl ⟨rfl,trivial⟩ rfl (by kernel_rfl) (by kernel_rfl)
noncomputable def Ju:CalleeS Go.Proofs.Tryz.prog:=mkC YX YZ [.P] [.S] (fun (t:Option Addr)=>ZE t) (fun (t:Option Addr)=>Yo t)
def UB (self1:(Int)→M (ByteArray)) (C19:Int):M (ByteArray):=do
 self1 (IntKind.wrap .i64 (C19+1))
def Yc (C10:Addr) (C11:Sl) (C12:Int) (self1:(Int)→M (ByteArray)):(Int)→M (ByteArray):=fun s=>match s with
 | Xx9=>do
  M.ite (decide (Xx9 < C12)) (do
   let Xx21←ixL C11 Xx9 1
   let Xx22←ldI .u8 Xx21
   let Xx24←M.ite (decide (Xx22 < 32)) (do
    M.pure true
    ) (do
    M.pure (decide (Xx22 > 126))
    )
   M.ite Xx24 (do
    let Xx26←KS (some C10) (⟨#[92,120]⟩:ByteArray)
    let Xx28←Zb (IntKind.wrap .i64 (iShr .u8 Xx22 4)) 16
    let Xx29←KS (some C10) Xx28
    let Xx30←Zb (IntKind.wrap .i64 (iAnd .u8 Xx22 15)) 16
    let Xx31←KS (some C10) Xx30
    UB self1 Xx9
    ) (do
    let Xx33←M.ite (Xx22 == 39) (do
     M.pure true
     ) (do
     M.pure (Xx22 == 92)
     )
    M.ite Xx33 (do
     let Xx35←KY (some C10) 92
     let Xx36←KY (some C10) Xx22
     UB self1 Xx9
     ) (do
     let Xx37←KY (some C10) Xx22
     UB self1 Xx9
     )
    )
   ) (do
   let Xx39←KY (some C10) 39
   let Xx41←ZE (some C10)
   M.pure Xx41
   )
def W9 (x0:ByteArray):M (ByteArray):=do
 let Xx3←mkB ZN (#[.pointer none,.slice none 0 0]:Array Value)
 let Xx5←KY (some Xx3) 39
 let Xx8←s2b Kp x0
 M.loop (Yc Xx3 Xx8 (Xx8.len:Int)) 0
theorem KBP (x0:ByteArray):Ku Go.Proofs.Tryz.prog 131 #[.string x0] (fun (r:ByteArray)=>.string r) (W9 x0) :=
 KQ [Wz,UT,JG,Ju] [] [.S] [(0,.S x0)] (.q .o (.q .o (.q .o (.q (.q .o (.b (.l [(3,.A),(8,.L),(9,.I .i64)] [(10,.I .i64)] (fun (t:Addr × Sl × Int)=>Yc t.1 t.2.1 t.2.2) (fun self1=>.q .o (.q .o (.q .o (.j [(3,.A),(8,.L),(9,.I .i64),(10,.I .i64)] (fun (t:Addr × Sl × Int × Int)=>UB self1 t.2.2.2) .o))))))) .o)))) Go.Proofs.Tryz.func131 rfl rfl ⟨rfl,trivial⟩ rfl (by kernel_rfl) (by kernel_rfl)
noncomputable def KBQ:CalleeS Go.Proofs.Tryz.prog:=mkC KAI KAN [.S] [.S] (fun (t:ByteArray)=>W9 t) (fun (t:ByteArray)=>KBP t)
def Jm (x0:Option Addr) (x1:Int):M (Unit):=do
 let Xx2←nilP x0
 let Xx3←nilP x0
 let Xx4←ldL ((Xx2).add 1)
 let Xx5←ldL ((Xx3).add 1)
 let Xx6←mnz Kp (IntKind.wrap .i64 ((IntKind.wrap .i64 (2 * (Xx4.cap:Int)))+x1))
 chk (fun h:Heap=>(KM h ((Xx2).add 1)=some ((Xx4:Sl).v))∧(KM h ((Xx3).add 1)=some ((Xx5:Sl).v)))
 let Xx7←slL Xx6 0 (Xx5.len:Int) 1
 let Xx9←nilP x0
 let Xx10←ldL ((Xx9).add 1)
 let Xx11←cpL 1 Xx7 Xx10
 let Xx12←nilP x0
 stV ((Xx12).add 1) ((Xx7:Sl).v)
 M.pure ()
theorem Xa (x0:Option Addr) (x1:Int):Ku Go.Proofs.Tryz.prog 217 #[.pointer x0,.int .i64 x1] (fun (r:Unit)=>.tuple #[]) (Jm x0 x1) :=
 KQ [KLx Vi #[3] 44 5 Go.Proofs.Tryz.func235 (by kernel_rfl) (by kernel_rfl) (by kernel_rfl) (by kernel_rfl) un44] [0,5,14,21,26] [] [(0,.P x0),(1,.I .i64 x1)] (.q (.r [0,1,2,4,8,16,0,96,128,0,512,1024,2048,4096,8448,32767] [0,1,2,4,8,16,0,96,128,0,512,1024,2048,4096,8448,16384] [0,1,3,7,15,31,0,127,255,0,512,1536,3584,7680,16383,32767] (.pu 0 (.pu 1 (.pu 2 (.pu 6 (.pu 9 (.pu 10 (.pu 11 (.pu 3 (.pu 4 (.pu 5 (.pu 7 (.pu 12 (.pu 13 (.st [14,15] (.on 8 (.pu 14 (.pu 15 (.nx .dn))))))))))))))))))) .o) Go.Proofs.Tryz.func217 rfl rfl ⟨rfl,rfl,trivial⟩ rfl (by kernel_rfl) (by kernel_rfl)
noncomputable def Xb:CalleeS Go.Proofs.Tryz.prog:=mkC XB XE [.P,.I .i64] [] (fun (t:Option Addr × Int)=>Jm t.1 t.2) (fun (t:Option Addr × Int)=>Xa t.1 t.2)
def JJ (x0:Option Addr) (x1:Int):M (Unit):=do
 let Xx2←Kn x0
 M.ite (decide (x1 < 0)) (do
  M.fail
  ) (do
  let Xx6←nilP x0
  let Xx7←nilP x0
  let Xx8←ldL ((Xx6).add 1)
  let Xx9←ldL ((Xx7).add 1)
  M.ite (decide ((IntKind.wrap .i64 ((Xx8.cap:Int) - (Xx9.len:Int))) < x1)) (do
   let Xx10←Jm x0 x1
   M.pure ()
   ) (do
   M.pure ()
   )
  )
theorem Xc (x0:Option Addr) (x1:Int):Ku Go.Proofs.Tryz.prog 189 #[.pointer x0,.int .i64 x1] (fun (r:Unit)=>.tuple #[]) (JJ x0 x1) :=
 KQ [mkC JO JP [.P] [] (fun (t:Option Addr)=>Kn t) (fun (t:Option Addr)=>JR t),Xb] [0,4,9,14,22] [] [(0,.P x0),(1,.I .i64 x1)] (.q .o (.q .o (.q (.r [0,1,2,4,8,0,32,64,128,256,528,0,3072] [0,1,2,4,8,0,32,64,128,256,528,0,3072] [0,1,3,7,15,0,32,96,224,480,1023,0,4095] (.pu 0 (.pu 1 (.pu 2 (.pu 5 (.pu 6 (.pu 7 (.pu 11 (.pu 3 (.pu 4 (.pu 8 (.pu 9 (.pu 10 (.pu 12 (.st [10,12] .dn))))))))))))))) .o))) Go.Proofs.Tryz.func189 rfl rfl ⟨rfl,rfl,trivial⟩ rfl (by kernel_rfl) (by kernel_rfl)
noncomputable def Xd:CalleeS Go.Proofs.Tryz.prog:=mkC XA XD [.P,.I .i64] [] (fun (t:Option Addr × Int)=>JJ t.1 t.2) (fun (t:Option Addr × Int)=>Xc t.1 t.2)
end Gx
namespace Gx
open Go
set_option linter.unusedVariables false
set_option maxRecDepth 100000
def YA (C43:ByteArray) (C44:Addr) (C45:Sl) (C46:Int) (self2:(Int)→M (ByteArray)):(Int)→M (ByteArray):=fun s=>match s with
 | Xx42=>do
  M.ite (decide (Xx42 < C46)) (do
   let Xx52←ixL C45 Xx42 1
   let Xx53←ldS Xx52
   let Xx55←KS (some C44) C43
   let Xx56←KS (some C44) Xx53
   self2 (IntKind.wrap .i64 (Xx42+1))
   ) (do
   let Xx58←ZE (some C44)
   M.pure Xx58
   )
def YB (C18:Sl) (C19:ByteArray) (C20:Sl) (C21:Int) (self1:(Int × Int)→M (ByteArray)):(Int × Int)→M (ByteArray):=fun s=>match s with
 | (Xx16,Xx17)=>do
  M.ite (decide (Xx17 < C21)) (do
   let Xx27←ixL C20 Xx17 1
   let Xx28←ldS Xx27
   M.ite (decide ((Xx28.size:Int) > (IntKind.wrap .i64 (9223372036854775807 - Xx16)))) (do
    M.fail
    ) (do
    self1 (IntKind.wrap .i64 (Xx16+(Xx28.size:Int)),IntKind.wrap .i64 (Xx17+1))
    )
   ) (do
   let Xx32←mkB ZN (#[.pointer none,.slice none 0 0]:Array Value)
   let Xx34←JJ (some Xx32) Xx16
   let Xx36←ixL C18 0 1
   let Xx37←ldS Xx36
   let Xx38←KS (some Xx32) Xx37
   let Xx41←slL C18 1 C18.len 1
   M.loop (YA C19 Xx32 Xx41 (Xx41.len:Int)) 0
   )
def U2 (C12:Sl) (C13:ByteArray) (Xx11:Int):M (ByteArray):=do
 M.loop (YB C12 C13 C12 (C12.len:Int)) (Xx11,0)
def Vq (x0:Sl) (x1:ByteArray):M (ByteArray):=do
 M.ite ((x0.len:Int) == 0) (do
  M.pure ByteArray.empty
  ) (do
  M.ite ((x0.len:Int) == 1) (do
   let Xx8←ixL x0 0 1
   let Xx9←ldS Xx8
   M.pure Xx9
   ) (do
   M.ite (decide ((x1.size:Int) > 0)) (do
    let Xx62←pQuo .i64 9223372036854775807 (IntKind.wrap .i64 ((x0.len:Int) - 1))
    M.ite (decide ((x1.size:Int) ≥ Xx62)) (do
     M.fail
     ) (do
     U2 x0 x1 (IntKind.wrap .i64 (0+(IntKind.wrap .i64 ((x1.size:Int) * (IntKind.wrap .i64 ((x0.len:Int) - 1))))))
     )
    ) (do
    U2 x0 x1 0
    )
   )
  )
theorem KAR (x0:Sl) (x1:ByteArray):Ku Go.Proofs.Tryz.prog 132 #[(x0:Sl).v,.string x1] (fun (r:ByteArray)=>.string r) (Vq x0 x1) :=
 KQ [Xd,JG,Ju] [] [.S] [(0,.L x0),(1,.S x1)] (.q .o (.q .o (.q .o (.q .o (.j [(0,.L),(1,.S),(5,.I .i64)] (fun (t:Sl × ByteArray × Int)=>U2 t.1 t.2.1 t.2.2) (.q (.q .o (.b (.l [(0,.L),(1,.S),(39,.L),(40,.I .i64)] [(5,.I .i64),(41,.I .i64)] (fun (t:Sl × ByteArray × Sl × Int)=>YB t.1 t.2.1 t.2.2.1 t.2.2.2) (fun _=>.o)))) (.q .o (.q .o (.q .o (.q (.q .o (.b (.l [(1,.S),(8,.A),(63,.L),(64,.I .i64)] [(65,.I .i64)] (fun (t:ByteArray × Addr × Sl × Int)=>YA t.1 t.2.1 t.2.2.1 t.2.2.2) (fun _=>.o)))) .o)))))))))) Go.Proofs.Tryz.func132 rfl rfl ⟨rfl,rfl,trivial⟩ rfl (by kernel_rfl) (by kernel_rfl)
noncomputable def KAS:CalleeS Go.Proofs.Tryz.prog:=mkC zM zQ [.L,.S] [.S] (fun (t:Sl × ByteArray)=>Vq t.1 t.2) (fun (t:Sl × ByteArray)=>KAR t.1 t.2)
def U3 (self1:(Sl × Int)→M (ByteArray)) (C56:Int) (Xx51:Sl):M (ByteArray):=do
 self1 (Xx51,IntKind.wrap .i64 (C56+1))
def XI (C44:Int) (C45:Addr) (C46:Sl) (C47:Int) (self1:(Sl × Int)→M (ByteArray)):(Sl × Int)→M (ByteArray):=fun s=>match s with
 | (Xx42,Xx43)=>do
  M.ite (decide (Xx43 < C47)) (do
   let Xx58←ixL C46 Xx43 4
   let Xx59←ldG 4 Xx58
   let Xx60←mkB KI (#[.int .i64 0,.int .i64 0,.string ByteArray.empty,.slice none 0 0]:Array Value)
   M.need (Xx59.size=4)
   stG Xx60 Xx59
   let Xx63←ldG 4 Xx60
   let Xx64←KAq Go.Proofs.Tryz.prog Wa #[.agg Xx63,.int .i64 (IntKind.wrap .i64 (C44+1))] (fun r:ByteArray=>.string r)
   let Xx66←ldI .i64 ((C45).add 0)
   let Xx67←M.ite (Xx66 == 5) (do
    M.pure ((Int.tmod Xx43 2) == 1)
    ) (do
    M.pure false
    )
   M.ite Xx67 (do
    let Xx68←ixL Xx42 (IntKind.wrap .i64 ((Xx42.len:Int) - 1)) 1
    let Xx69←ldS Xx68
    let Xx70←sCat (⟨#[58,32]⟩:ByteArray) Xx64
    let Xx71←sCat Xx69 Xx70
    let Xx72←ixL Xx42 (IntKind.wrap .i64 ((Xx42.len:Int) - 1)) 1
    stV Xx72 (.string Xx71)
    U3 self1 Xx43 Xx42
    ) (do
    let Xx74←bdL Ym 1 #[.string Xx64]
    let Xx75←apL Ym 1 16 (#[.string ByteArray.empty]:Array Value) Xx42 Xx74
    U3 self1 Xx43 Xx75
    )
   ) (do
   let Xx77←Vq Xx42 (⟨#[44,32]⟩:ByteArray)
   let Xx80←ldI .i64 ((C45).add 0)
   M.ite (Xx80 == 5) (do
    let Xx82←sCat (⟨#[123]⟩:ByteArray) Xx77
    let Xx83←sCat Xx82 (⟨#[125]⟩:ByteArray)
    M.pure Xx83
    ) (do
    let Xx85←sCat (⟨#[91]⟩:ByteArray) Xx77
    let Xx86←sCat Xx85 (⟨#[93]⟩:ByteArray)
    M.pure Xx86
    )
   )
def U4 (C36:Int) (C37:Addr) (Xx35:Bool):M (ByteArray):=do
 M.ite Xx35 (do
  let Xx41←ldL ((C37).add 3)
  M.loop (XI C36 C37 Xx41 (Xx41.len:Int)) (Sl.nil,0)
  ) (do
  M.pure (⟨#[63]⟩:ByteArray)
  )
def Wq (x0:Array Value) (x1:Int):M (ByteArray):=do
 let Xx2←mkB KI x0
 M.ite (decide (x1 > 8)) (do
  M.pure (⟨#[63]⟩:ByteArray)
  ) (do
  let Xx8←ldI .i64 ((Xx2).add 0)
  M.ite (Xx8 == 1) (do
   let Xx11←ldI .i64 ((Xx2).add 1)
   let Xx12←XH Xx11
   M.pure Xx12
   ) (do
   M.ite (Xx8 == 2) (do
    let Xx15←ldS ((Xx2).add 2)
    let Xx16←W9 Xx15
    M.pure Xx16
    ) (do
    M.ite (Xx8 == 3) (do
     let Xx20←ldI .i64 ((Xx2).add 1)
     M.ite (Xx20 == 1) (do
      M.pure (⟨#[116,114,117,101]⟩:ByteArray)
      ) (do
      M.pure (⟨#[102,97,108,115,101]⟩:ByteArray)
      )
     ) (do
     M.ite (Xx8 == 6) (do
      let Xx25←ldI .i64 ((Xx2).add 1)
      let Xx26←XH Xx25
      let Xx27←sCat (⟨#[118,91]⟩:ByteArray) Xx26
      let Xx28←sCat Xx27 (⟨#[93]⟩:ByteArray)
      M.pure Xx28
      ) (do
      M.ite (Xx8 == 7) (do
       let Xx31←ldI .i64 ((Xx2).add 1)
       let Xx32←XH Xx31
       let Xx33←sCat (⟨#[101,91]⟩:ByteArray) Xx32
       let Xx34←sCat Xx33 (⟨#[93]⟩:ByteArray)
       M.pure Xx34
       ) (do
       M.ite (Xx8 == 4) (do
        U4 x1 Xx2 (Xx8 == 4)
        ) (do
        U4 x1 Xx2 (Xx8 == 5)
        )
       )
      )
     )
    )
   )
  )
theorem qW (x0:Array Value) (x1:Int):Ku Go.Proofs.Tryz.prog 98 #[.agg x0,.int .i64 x1] (fun (r:ByteArray)=>.string r) (Wq x0 x1) :=
 KQ [KE4,KBQ,KAS,mkC Wa NW [.G,.I .i64] [.S] (fun (t:Array Value × Int)=>KAq Go.Proofs.Tryz.prog Wa #[.agg t.1,.int .i64 t.2] (fun r:ByteArray=>.string r)) (fun (t:Array Value × Int)=>Y2)] [] [.S] [(0,.G x0),(1,.I .i64 x1)] (.q .o (.q .o (.q (.q .o (.b (.q .o (.q .o (.q .o (.q .o (.q .o (.q .o (.q .o (.q .o (.q .o (.q .o (.q .o (.j [(1,.I .i64),(2,.A),(43,.B)] (fun (t:Int × Addr × Bool)=>U4 t.1 t.2.1 t.2.2) .o)))))))))))))) (.q .o (.q (.q .o (.b (.l [(1,.I .i64),(2,.A),(47,.L),(48,.I .i64)] [(5,.L),(49,.I .i64)] (fun (t:Int × Addr × Sl × Int)=>XI t.1 t.2.1 t.2.2.1 t.2.2.2) (fun self1=>.q .o (.q .o (.q .o (.j [(1,.I .i64),(2,.A),(47,.L),(48,.I .i64),(49,.I .i64),(5,.L)] (fun (t:Int × Addr × Sl × Int × Int × Sl)=>U3 self1 t.2.2.2.2.1 t.2.2.2.2.2) .o))))))) .o))))) Go.Proofs.Tryz.func98 rfl rfl ⟨rfl,rfl,trivial⟩ rfl (by kernel_rfl) (by kernel_rfl)
noncomputable def KCS:CalleeS Go.Proofs.Tryz.prog:=mkC Wa NW [.G,.I .i64] [.S] (fun (t:Array Value × Int)=>Wq t.1 t.2) (fun (t:Array Value × Int)=>qW t.1 t.2)
def Wr (x0:Array Value):M (ByteArray):=do
 let Xx2←mkB KI x0
 let Xx4←ldG 4 Xx2
 let Xx5←Wq Xx4 1
 M.pure Xx5
theorem KCT (x0:Array Value):Ku Go.Proofs.Tryz.prog 50 #[.agg x0] (fun (r:ByteArray)=>.string r) (Wr x0) :=
 KQ [KCS] [] [.S] [(0,.G x0)] .o Go.Proofs.Tryz.func50 rfl rfl ⟨rfl,trivial⟩ rfl (by kernel_rfl) (by kernel_rfl)
noncomputable def KCU:CalleeS Go.Proofs.Tryz.prog:=mkC KBE KBK [.G] [.S] (fun (t:Array Value)=>Wr t) (fun (t:Array Value)=>KCT t)
def Xq (x0:Int):M (Array Value):=do
 let Xx2←mkB KI (#[.int .i64 0,.int .i64 0,.string ByteArray.empty,.slice none 0 0]:Array Value)
 M.need ((#[.int .i64 1,.int .i64 x0,.string ByteArray.empty,.slice none 0 0]:Array Value).size=4)
 stG Xx2 (#[.int .i64 1,.int .i64 x0,.string ByteArray.empty,.slice none 0 0]:Array Value)
 let Rr5←ldG 4 Xx2
 M.pure Rr5
theorem zV (x0:Int):Ku Go.Proofs.Tryz.prog 51 #[.int .i64 x0] (fun (r:Array Value)=>.agg r) (Xq x0) :=
 KQ [] [] [.G] [(0,.I .i64 x0)] .o Go.Proofs.Tryz.func51 rfl rfl ⟨rfl,trivial⟩ rfl (by kernel_rfl) (by kernel_rfl)
noncomputable def KDL:CalleeS Go.Proofs.Tryz.prog:=mkC KCG qT [.I .i64] [.G] (fun (t:Int)=>Xq t) (fun (t:Int)=>zV t)
def Xs (x0:ByteArray):M (Array Value):=do
 let Xx2←mkB KI (#[.int .i64 0,.int .i64 0,.string ByteArray.empty,.slice none 0 0]:Array Value)
 M.need ((#[.int .i64 2,.int .i64 0,.string x0,.slice none 0 0]:Array Value).size=4)
 stG Xx2 (#[.int .i64 2,.int .i64 0,.string x0,.slice none 0 0]:Array Value)
 let Rr5←ldG 4 Xx2
 M.pure Rr5
theorem zW (x0:ByteArray):Ku Go.Proofs.Tryz.prog 52 #[.string x0] (fun (r:Array Value)=>.agg r) (Xs x0) :=
 KQ [] [] [.G] [(0,.S x0)] .o Go.Proofs.Tryz.func52 rfl rfl ⟨rfl,trivial⟩ rfl (by kernel_rfl) (by kernel_rfl)
noncomputable def KDM:CalleeS Go.Proofs.Tryz.prog:=mkC KCH qU [.S] [.G] (fun (t:ByteArray)=>Xs t) (fun (t:ByteArray)=>zW t)
def NY (x0:Array Value):M (ByteArray):=do
 let Xx2←mkB KR x0
 let Xx5←ldG 4 Xx2
 let Xx6←U1 Xx5
 M.ite (Xx6 != 0) (do
  M.pure ByteArray.empty
  ) (do
  let Xx9←ldI .i64 ((Xx2).add 0)
  M.ite (Xx9 == 2) (do
   let Xx11←ldI .i64 ((Xx2).add 2)
   let Xx12←Xq Xx11
   let Xx13←Wr Xx12
   M.pure Xx13
   ) (do
   let Xx15←ldI .i64 ((Xx2).add 0)
   M.ite (Xx15 == 3) (do
    let Xx17←ldS ((Xx2).add 1)
    let Xx18←Xs Xx17
    let Xx19←Wr Xx18
    M.pure Xx19
    ) (do
    let Xx21←ldS ((Xx2).add 1)
    M.pure Xx21
    )
   )
  )
theorem KE5 (x0:Array Value):Ku Go.Proofs.Tryz.prog 20 #[.agg x0] (fun (r:ByteArray)=>.string r) (NY x0) :=
 KQ [Gm,KCU,KDL,KDM] [] [.S] [(0,.G x0)] .o Go.Proofs.Tryz.func20 rfl rfl ⟨rfl,trivial⟩ rfl (by kernel_rfl) (by kernel_rfl)
noncomputable def KE6:CalleeS Go.Proofs.Tryz.prog:=mkC KDE KDI [.G] [.S] (fun (t:Array Value)=>NY t) (fun (t:Array Value)=>KE5 t)
def Vr (self1:(Int × Int)→M (ByteArray)) (C19:Int) (Xx15:Int):M (ByteArray):=do
 self1 (Xx15,IntKind.wrap .i64 (C19+1))
def Vs (self1:(Int × Int)→M (ByteArray)) (C29:Addr) (C30:Addr) (C33:Int):M (ByteArray):=do
 let Xx35←ldG 4 C30
 let Xx36←NY Xx35
 let Xx37←KS (some C29) Xx36
 let Xx38←ldI .i64 ((C30).add 0)
 Vr self1 C33 Xx38
def Xt (C9:Addr) (C10:Sl) (C11:Int) (self1:(Int × Int)→M (ByteArray)):(Int × Int)→M (ByteArray):=fun s=>match s with
 | (Xx7,Xx8)=>do
  M.ite (decide (Xx8 < C11)) (do
   let Xx21←ixL C10 Xx8 4
   let Xx22←ldG 4 Xx21
   let Xx23←mkB KR (#[.int .i64 0,.string ByteArray.empty,.int .i64 0,.int .i64 0]:Array Value)
   M.need (Xx22.size=4)
   stG Xx23 Xx22
   let Xx27←ldG 4 Xx23
   let Xx28←U1 Xx27
   M.ite (Xx28 != 0) (do
    Vr self1 Xx8 Xx7
    ) (do
    let Xx40←M.ite (Xx7 != 4) (do
     let Xx41←ldI .i64 ((Xx23).add 0)
     M.pure (Xx41 != 4)
     ) (do
     M.pure false
     )
    M.ite Xx40 (do
     let Xx42←KY (some C9) 32
     Vs self1 C9 Xx23 Xx8
     ) (do
     Vs self1 C9 Xx23 Xx8
     )
    )
   ) (do
   let Xx44←ZE (some C9)
   M.pure Xx44
   )
def YC (x0:Sl):M (ByteArray):=do
 let Xx3←mkB ZN (#[.pointer none,.slice none 0 0]:Array Value)
 M.loop (Xt Xx3 x0 (x0.len:Int)) (4,0)
theorem KDN (x0:Sl):Ku Go.Proofs.Tryz.prog 25 #[(x0:Sl).v] (fun (r:ByteArray)=>.string r) (YC x0) :=
 KQ [KE6,Gm,UT,JG,Ju] [] [.S] [(0,.L x0)] (.q .o (.q .o (.q .o (.q (.q .o (.b (.l [(3,.A),(7,.L),(8,.I .i64)] [(4,.I .i64),(9,.I .i64)] (fun (t:Addr × Sl × Int)=>Xt t.1 t.2.1 t.2.2) (fun self1=>.q .o (.q .o (.q (.b (.q .o (.q .o (.q .o (.j [(3,.A),(6,.A),(7,.L),(8,.I .i64),(9,.I .i64)] (fun (t:Addr × Addr × Sl × Int × Int)=>Vs self1 t.1 t.2.1 t.2.2.2.2) .o))))) (.j [(3,.A),(7,.L),(8,.I .i64),(9,.I .i64),(4,.I .i64)] (fun (t:Addr × Sl × Int × Int × Int)=>Vr self1 t.2.2.2.1 t.2.2.2.2) .o))))))) .o)))) Go.Proofs.Tryz.func25 rfl rfl ⟨rfl,trivial⟩ rfl (by kernel_rfl) (by kernel_rfl)
noncomputable def KDO:CalleeS Go.Proofs.Tryz.prog:=mkC KCD KCJ [.L] [.S] (fun (t:Sl)=>YC t) (fun (t:Sl)=>KDN t)
def JS (self1:(Int)→M (Bool)) (C17:Int) (Xx14:Bool):M (Bool):=do
 M.ite Xx14 (do
  M.pure false
  ) (do
  self1 (IntKind.wrap .i64 (C17+1))
  )
def Un (C8:Sl) (C9:Sl) (self1:(Int)→M (Bool)):(Int)→M (Bool):=fun s=>match s with
 | Xx7=>do
  M.ite (decide (Xx7 < (C8.len:Int))) (do
   let Xx19←ixL C8 Xx7 4
   let Xx20←ixL C9 Xx7 4
   let Xx21←ldI .i64 ((Xx19).add 0)
   let Xx22←ldI .i64 ((Xx20).add 0)
   M.ite (Xx21 != Xx22) (do
    JS self1 Xx7 true
    ) (do
    let Xx24←ixL C8 Xx7 4
    let Xx25←ixL C9 Xx7 4
    let Xx26←ldS ((Xx24).add 1)
    let Xx27←ldS ((Xx25).add 1)
    M.ite (!(sEq Xx26 Xx27)) (do
     JS self1 Xx7 true
     ) (do
     let Xx29←ixL C8 Xx7 4
     let Xx30←ixL C9 Xx7 4
     let Xx31←ldI .i64 ((Xx29).add 2)
     let Xx32←ldI .i64 ((Xx30).add 2)
     JS self1 Xx7 (Xx31 != Xx32)
     )
    )
   ) (do
   M.pure true
   )
def Jb (x0:Sl) (x1:Sl):M (Bool):=do
 M.ite ((x0.len:Int) != (x1.len:Int)) (do
  M.pure false
  ) (do
  M.loop (Un x0 x1) 0
  )
theorem NZ (x0:Sl) (x1:Sl):Ku Go.Proofs.Tryz.prog 27 #[(x0:Sl).v,(x1:Sl).v] (fun (r:Bool)=>.bool r) (Jb x0 x1) :=
 KQ [] [] [.B] [(0,.L x0),(1,.L x1)] (.q .o (.q .o (.q (.q .o (.b (.l [(0,.L),(1,.L)] [(5,.I .i64)] (fun (t:Sl × Sl)=>Un t.1 t.2) (fun self1=>.q .o (.q (.b (.q (.r [0,0,3,4,8,0,0,96,128,256,528,1024,2048,2048,14336,18432,34816,2048,2048,395264,526336,1050624,2164736,4196352,8390656,16777216,16777216,117440512,150994944,285212672,16777216,16777216,3238002688,4311744512,8606711808,17733517312,34376515584] [0,0,3,4,8,0,0,96,128,256,528,1024,2048,2048,14336,18432,34816,2048,2048,395264,526336,1050624,2164736,4196352,8388608,16777216,16777216,117440512,150994944,285212672,16777216,16777216,3238002688,4311744512,8606711808,17733517312,34376515584] [0,0,3,7,15,0,0,96,224,480,1023,2047,4095,4095,16383,32767,65535,4095,4095,397311,921599,1970175,4194303,8388607,16777215,33554431,33554431,134217727,268435455,536870911,33554431,33554431,3254779903,7549747199,16139681791,34359738367,68719476735] (.pu 0 (.pu 1 (.pu 2 (.pu 3 (.pu 5 (.pu 6 (.pu 7 (.pu 8 (.pu 4 (.pu 9 (.pu 10 (.pu 11 (.g 11 (.of 12 (.of 13 (.of 14 (.of 15 (.of 16 (.of 17 (.of 18 (.of 19 (.of 20 (.of 21 (.of 22 (.pu 23 (.pu 24 (.of 25 (.of 26 (.of 27 (.of 28 (.of 29 (.of 30 (.of 31 (.of 32 (.of 33 (.of 34 (.of 35 (.pu 36 (.st [10,11,12,13,14,15,16,17,18,19,20,21,22,23,24,25,26,27,28,29,30,31,32,33,34,35,36] .dn)))))))))))))))))))))))))) (.pu 12 (.pu 13 (.pu 14 (.pu 15 (.pu 17 (.pu 18 (.pu 19 (.pu 20 (.pu 16 (.pu 21 (.pu 22 (.pu 23 (.pu 24 (.g 24 (.of 25 (.of 26 (.of 27 (.of 28 (.of 29 (.of 30 (.of 31 (.of 32 (.of 33 (.of 34 (.of 35 (.pu 36 (.st [22,23,24,25,26,27,28,29,30,31,32,33,34,35,36] .dn))))))))))))) (.pu 25 (.pu 26 (.pu 27 (.pu 28 (.pu 30 (.pu 31 (.pu 32 (.pu 33 (.pu 29 (.pu 34 (.pu 35 (.pu 36 (.st [35,36] .dn))))))))))))))))))))))))))))))))))))))))) (.j [(0,.L),(1,.L),(5,.I .i64),(53,.B)] (fun (t:Sl × Sl × Int × Bool)=>JS self1 t.2.2.1 t.2.2.2) .o))) .o))))) .o))) Go.Proofs.Tryz.func27 rfl rfl ⟨rfl,rfl,trivial⟩ rfl (by kernel_rfl) (by kernel_rfl)
noncomputable def Na:CalleeS Go.Proofs.Tryz.prog:=mkC Gb Gf [.L,.L] [.B] (fun (t:Sl × Sl)=>Jb t.1 t.2) (fun (t:Sl × Sl)=>NZ t.1 t.2)
def UG (C13:Sl) (C14:Sl) (C15:Int) (self1:(Int)→M (Bool)):(Int)→M (Bool):=fun s=>match s with
 | Xx12=>do
  M.ite (decide (Xx12 < C15)) (do
   let Xx21←ixL C14 Xx12 4
   let Xx22←ldG 4 Xx21
   let Xx23←mkB KR (#[.int .i64 0,.string ByteArray.empty,.int .i64 0,.int .i64 0]:Array Value)
   M.need (Xx22.size=4)
   stG Xx23 Xx22
   let Xx26←ldG 4 Xx23
   let Xx27←U1 Xx26
   M.ite (Xx27 != 0) (do
    M.pure true
    ) (do
    self1 (IntKind.wrap .i64 (Xx12+1))
    )
   ) (do
   let Xx30←YC C13
   M.ite (decide ((Xx30.size:Int) > 16384)) (do
    M.pure true
    ) (do
    let Xx35←XG Xx30
    let Xx37←M.ite (Xx35.2.2 == 0) (do
     M.pure (Xx35.2.1 == (Xx30.size:Int))
     ) (do
     M.pure false
     )
    let Xx38←M.ite Xx37 (do
     let Xx39←Jb C13 Xx35.1
     M.pure Xx39
     ) (do
     M.pure false
     )
    M.pure Xx38
    )
   )
def ZT (C6:Sl):M (Bool):=do
 M.ite (decide ((C6.len:Int) > 4096)) (do
  M.pure true
  ) (do
  M.loop (UG C6 C6 (C6.len:Int)) 0
  )
def Uo (x0:Sl) (x1:ByteArray):M (Bool):=do
 let Xx4←Jt
 M.ite (!Xx4) (do
  M.pure false
  ) (do
  let Xx41←XG x1
  M.ite (Xx41.2.2 == 0) (do
   let Xx44←YC Xx41.1
   let Xx46←XG Xx44
   let Xx48←M.ite (decide ((Xx44.size:Int)≤16384)) (do
    let Xx49←M.ite (Xx46.2.2 != 0) (do
     M.pure true
     ) (do
     let Xx50←Jb Xx41.1 Xx46.1
     M.pure (!Xx50)
     )
    let Xx51←M.ite Xx49 (do
     M.pure true
     ) (do
     let Xx52←YC Xx46.1
     M.pure (!(sEq Xx52 Xx44))
     )
    M.pure Xx51
    ) (do
    M.pure false
    )
   M.ite Xx48 (do
    M.pure false
    ) (do
    ZT x0
    )
   ) (do
   ZT x0
   )
  )
theorem Xv (x0:Sl) (x1:ByteArray):Ku Go.Proofs.Tryz.prog 7 #[(x0:Sl).v,.string x1] (fun (r:Bool)=>.bool r) (Uo x0 x1) :=
 KQ [KCO,Gk,Gm,KDO,Na] [] [.B] [(0,.L x0),(1,.S x1)] (.q .o (.q .o (.q .o (.j [(0,.L)] (fun (t:Sl)=>ZT t) (.q .o (.q (.q .o (.b (.l [(0,.L),(58,.L),(59,.I .i64)] [(60,.I .i64)] (fun (t:Sl × Sl × Int)=>UG t.1 t.2.1 t.2.2) (fun _=>.o)))) .o)))))) Go.Proofs.Tryz.func7 rfl rfl ⟨rfl,rfl,trivial⟩ rfl (by kernel_rfl) (by kernel_rfl)
def XJ (C6:Int) (C7:Sl) (C8:Int) (self1:(Int)→M (Int)):(Int)→M (Int):=fun s=>match s with
 | Xx5=>do
  M.ite (decide (Xx5 < C8)) (do
   let Xx14←ixL C7 Xx5 1
   let Xx15←ldI .i64 Xx14
   M.ite (Xx15 != C6) (do
    M.pure Xx15
    ) (do
    self1 (IntKind.wrap .i64 (Xx5+1))
    )
   ) (do
   M.pure C6
   )
def Yp (x0:Sl):M (Int):=do
 M.loop (XJ 0 x0 (x0.len:Int)) 0
theorem KCV (x0:Sl):Ku Go.Proofs.Tryz.prog 171 #[(x0:Sl).v] (fun (r:Int)=>.int .i64 r) (Yp x0) :=
 KQ [] [] [.I .i64] [(0,.L x0)] (.q .o (.q .o (.q (.q .o (.b (.l [(3,.I .i64),(6,.L),(7,.I .i64)] [(8,.I .i64)] (fun (t:Int × Sl × Int)=>XJ t.1 t.2.1 t.2.2) (fun _=>.o)))) .o))) Go.Proofs.Tryz.func171 rfl rfl ⟨rfl,trivial⟩ rfl (by kernel_rfl) (by kernel_rfl)
noncomputable def KCW:CalleeS Go.Proofs.Tryz.prog:=mkC KA9 KBF [.L] [.I .i64] (fun (t:Sl)=>Yp t) (fun (t:Sl)=>KCV t)
def U5 (x0:Int):M (Bool):=do
 M.pure (x0 != x0)
theorem zX (x0:Int):Ku Go.Proofs.Tryz.prog 209 #[.int .i64 x0] (fun (r:Bool)=>.bool r) (U5 x0) :=
 KQ [] [] [.B] [(0,.I .i64 x0)] .o Go.Proofs.Tryz.func209 rfl rfl ⟨rfl,trivial⟩ rfl (by kernel_rfl) (by kernel_rfl)
noncomputable def zY:CalleeS Go.Proofs.Tryz.prog:=mkC qg qh [.I .i64] [.B] (fun (t:Int)=>U5 t) (fun (t:Int)=>zX t)
def UU (x0:Int) (x1:Int):M (Int):=do
 let Xx3←U5 x0
 let Xx5←U5 x1
 M.ite Xx3 (do
  M.ite Xx5 (do
   M.pure 0
   ) (do
   M.pure (-1)
   )
  ) (do
  M.ite Xx5 (do
   M.pure 1
   ) (do
   M.ite (decide (x0 < x1)) (do
    M.pure (-1)
    ) (do
    M.ite (decide (x0 > x1)) (do
     M.pure 1
     ) (do
     M.pure 0
     )
    )
   )
  )
theorem N3 (x0:Int) (x1:Int):Ku Go.Proofs.Tryz.prog 172 #[.int .i64 x0,.int .i64 x1] (fun (r:Int)=>.int .i64 r) (UU x0 x1) :=
 KQ [zY] [] [.I .i64] [(0,.I .i64 x0),(1,.I .i64 x1)] .o Go.Proofs.Tryz.func172 rfl rfl ⟨rfl,rfl,trivial⟩ rfl (by kernel_rfl) (by kernel_rfl)
noncomputable def N4:CalleeS Go.Proofs.Tryz.prog:=mkC NK NP [.I .i64,.I .i64] [.I .i64] (fun (t:Int × Int)=>UU t.1 t.2) (fun (t:Int × Int)=>N3 t.1 t.2)
def UV (x0:Int):M (Bool):=do
 M.pure (x0 != x0)
theorem N5 (x0:Int):Ku Go.Proofs.Tryz.prog 210 #[.int .i64 x0] (fun (r:Bool)=>.bool r) (UV x0) :=
 KQ [] [] [.B] [(0,.I .i64 x0)] .o Go.Proofs.Tryz.func210 rfl rfl ⟨rfl,trivial⟩ rfl (by kernel_rfl) (by kernel_rfl)
noncomputable def N6:CalleeS Go.Proofs.Tryz.prog:=mkC NL NQ [.I .i64] [.B] (fun (t:Int)=>UV t) (fun (t:Int)=>N5 t)
def Jv (x0:Int) (x1:Int):M (Int):=do
 let Xx3←UV x0
 let Xx5←UV x1
 M.ite Xx3 (do
  M.ite Xx5 (do
   M.pure 0
   ) (do
   M.pure (-1)
   )
  ) (do
  M.ite Xx5 (do
   M.pure 1
   ) (do
   M.ite (decide (x0 < x1)) (do
    M.pure (-1)
    ) (do
    M.ite (decide (x0 > x1)) (do
     M.pure 1
     ) (do
     M.pure 0
     )
    )
   )
  )
theorem Gp (x0:Int) (x1:Int):Ku Go.Proofs.Tryz.prog 173 #[.int .i64 x0,.int .i64 x1] (fun (r:Int)=>.int .i64 r) (Jv x0 x1) :=
 KQ [N6] [] [.I .i64] [(0,.I .i64 x0),(1,.I .i64 x1)] .o Go.Proofs.Tryz.func173 rfl rfl ⟨rfl,rfl,trivial⟩ rfl (by kernel_rfl) (by kernel_rfl)
noncomputable def Gq:CalleeS Go.Proofs.Tryz.prog:=mkC GE GJ [.I .i64,.I .i64] [.I .i64] (fun (t:Int × Int)=>Jv t.1 t.2) (fun (t:Int × Int)=>Gp t.1 t.2)
def U6 (x0:ByteArray) (x1:ByteArray):M (Int):=do
 let Xx3←ZO x0 x1
 M.pure Xx3
theorem N7 (x0:ByteArray) (x1:ByteArray):Ku Go.Proofs.Tryz.prog 174 #[.string x0,.string x1] (fun (r:Int)=>.int .i64 r) (U6 x0 x1) :=
 KQ [mkC Uw Uy [.S,.S] [.I .i64] (fun (t:ByteArray × ByteArray)=>ZO t.1 t.2) (fun (t:ByteArray × ByteArray)=>VL t.1 t.2)] [] [.I .i64] [(0,.S x0),(1,.S x1)] .o Go.Proofs.Tryz.func174 rfl rfl ⟨rfl,rfl,trivial⟩ rfl (by kernel_rfl) (by kernel_rfl)
noncomputable def N8:CalleeS Go.Proofs.Tryz.prog:=mkC NO NU [.S,.S] [.I .i64] (fun (t:ByteArray × ByteArray)=>U6 t.1 t.2) (fun (t:ByteArray × ByteArray)=>N7 t.1 t.2)
def KX (C5:Sl) (C6:Sl) (C7:Value) (C8:Sl) (C9:Int) (self1:(Int)→M (Int)):(Int)→M (Int):=fun s=>match s with
 | Xx4=>do
  M.ite (decide (Xx4 < C9)) (do
   let Xx15←ixL C8 Xx4 4
   let Xx16←ldG 4 Xx15
   let Xx17←mkB KI (#[.int .i64 0,.int .i64 0,.string ByteArray.empty,.slice none 0 0]:Array Value)
   M.need (Xx16.size=4)
   stG Xx17 Xx16
   M.ite (decide (Xx4 ≥ (C6.len:Int))) (do
    M.pure 1
    ) (do
    let Xx23←ixL C6 Xx4 4
    let Xx24←ldG 4 Xx23
    let Xx25←mkB KI (#[.int .i64 0,.int .i64 0,.string ByteArray.empty,.slice none 0 0]:Array Value)
    M.need (Xx24.size=4)
    stG Xx25 Xx24
    let Xx28←ldG 4 Xx17
    let Xx29←ldG 4 Xx25
    let Xx30←YM Go.Proofs.Tryz.prog (fun r:Int=>.int .i64 r) C7 [.agg Xx28,.agg Xx29]
    M.ite (Xx30 != 0) (do
     M.pure Xx30
     ) (do
     self1 (IntKind.wrap .i64 (Xx4+1))
     )
    )
   ) (do
   M.ite (decide ((C5.len:Int) < (C6.len:Int))) (do
    M.pure (-1)
    ) (do
    M.pure 0
    )
   )
def KP (x0:Sl) (x1:Sl) (x2:Value):M (Int):=do
 M.loop (KX x0 x1 x2 x0 (x0.len:Int)) 0
theorem Zf (x0:Sl) (x1:Sl) (x2:Value):Ku Go.Proofs.Tryz.prog 175 #[(x0:Sl).v,(x1:Sl).v,x2] (fun (r:Int)=>.int .i64 r) (KP x0 x1 x2) :=
 KQ [] [] [.I .i64] [(0,.L x0),(1,.L x1),(2,.V x2)] (.q .o (.q (.q .o (.b (.l [(0,.L),(1,.L),(2,.V),(11,.L),(12,.I .i64)] [(13,.I .i64)] (fun (t:Sl × Sl × Value × Sl × Int)=>KX t.1 t.2.1 t.2.2.1 t.2.2.2.1 t.2.2.2.2) (fun _=>.o)))) .o)) Go.Proofs.Tryz.func175 rfl rfl ⟨rfl,rfl,rfl,trivial⟩ rfl (by kernel_rfl) (by kernel_rfl)
noncomputable def Zg:CalleeS Go.Proofs.Tryz.prog:=mkC Zd Ze [.L,.L,.V] [.I .i64] (fun (t:Sl × Sl × Value)=>KP t.1 t.2.1 t.2.2) (fun (t:Sl × Sl × Value)=>Zf t.1 t.2.1 t.2.2)
def UY (x0:Array Value) (x1:Array Value):M (Int):=do
 let Xx2←mkB KI x0
 let Xx3←mkB KI x1
 let Xx5←ldI .i64 ((Xx2).add 0)
 let Xx6←ldI .i64 ((Xx3).add 0)
 let Xx7←ldI .i64 ((Xx2).add 1)
 let Xx8←ldI .i64 ((Xx3).add 1)
 let Xx9←ldS ((Xx2).add 2)
 let Xx10←ldS ((Xx3).add 2)
 let Xx11←ldL ((Xx2).add 3)
 let Xx12←ldL ((Xx3).add 3)
 let Xx13←UU Xx5 Xx6
 chk (fun h:Heap=>(KM h ((Xx2).add 0)=some (.int .i64 Xx5))∧(KM h ((Xx3).add 0)=some (.int .i64 Xx6))∧(KM h ((Xx2).add 1)=some (.int .i64 Xx7))∧(KM h ((Xx3).add 1)=some (.int .i64 Xx8))∧(KM h ((Xx2).add 2)=some (.string Xx9))∧(KM h ((Xx3).add 2)=some (.string Xx10))∧(KM h ((Xx2).add 3)=some ((Xx11:Sl).v))∧(KM h ((Xx3).add 3)=some ((Xx12:Sl).v)))
 let Xx14←Jv Xx7 Xx8
 chk (fun h:Heap=>(KM h ((Xx2).add 0)=some (.int .i64 Xx5))∧(KM h ((Xx3).add 0)=some (.int .i64 Xx6))∧(KM h ((Xx2).add 1)=some (.int .i64 Xx7))∧(KM h ((Xx3).add 1)=some (.int .i64 Xx8))∧(KM h ((Xx2).add 2)=some (.string Xx9))∧(KM h ((Xx3).add 2)=some (.string Xx10))∧(KM h ((Xx2).add 3)=some ((Xx11:Sl).v))∧(KM h ((Xx3).add 3)=some ((Xx12:Sl).v)))
 let Xx15←U6 Xx9 Xx10
 chk (fun h:Heap=>(KM h ((Xx2).add 0)=some (.int .i64 Xx5))∧(KM h ((Xx3).add 0)=some (.int .i64 Xx6))∧(KM h ((Xx2).add 1)=some (.int .i64 Xx7))∧(KM h ((Xx3).add 1)=some (.int .i64 Xx8))∧(KM h ((Xx2).add 2)=some (.string Xx9))∧(KM h ((Xx3).add 2)=some (.string Xx10))∧(KM h ((Xx2).add 3)=some ((Xx11:Sl).v))∧(KM h ((Xx3).add 3)=some ((Xx12:Sl).v)))
 let Xx16←KP Xx11 Xx12 (Value.func (.func XS) #[] #[])
 let Xx17←bdL XT 4 #[.int .i64 Xx13,.int .i64 Xx14,.int .i64 Xx15,.int .i64 Xx16]
 let Xx18←Yp Xx17
 M.pure Xx18
theorem Xw (x0:Array Value) (x1:Array Value):Ku Go.Proofs.Tryz.prog 124 #[.agg x0,.agg x1] (fun (r:Int)=>.int .i64 r) (UY x0 x1) :=
 KQ [KCW,N4,Gq,N8,Zg] [] [.I .i64] [(0,.G x0),(1,.G x1)] (.q .o (.q (.r [0,1,0,4,10,0,32,0,128,336,0,1024,0,4096,10752,0,32768,0,131072,344064,541200,1572864,4194303] [0,1,0,4,10,0,32,0,128,320,0,1024,0,4096,10240,0,32768,0,131072,327680,541200,1048576,2097152] [0,1,0,4,15,0,32,0,128,511,0,1024,0,4096,16383,0,32768,0,131072,524287,1048575,2097151,4194303] (.pu 0 (.pu 2 (.pu 5 (.pu 7 (.pu 10 (.pu 12 (.pu 15 (.pu 17 (.pu 1 (.pu 3 (.pu 6 (.pu 8 (.pu 11 (.pu 13 (.pu 16 (.pu 18 (.st [19,20,21,22] (.on 4 (.on 9 (.on 14 (.on 19 (.on 20 (.on 21 (.pu 22 (.nx .dn)))))))))))))))))))))))))) .o)) Go.Proofs.Tryz.func124 rfl rfl ⟨rfl,rfl,trivial⟩ rfl (by kernel_rfl) (by kernel_rfl)
noncomputable def zZ:CalleeS Go.Proofs.Tryz.prog:=mkC XS XU [.G,.G] [.I .i64] (fun (t:Array Value × Array Value)=>UY t.1 t.2) (fun (t:Array Value × Array Value)=>Xw t.1 t.2)
end Gx
namespace Gx
open Go
set_option linter.unusedVariables false
set_option maxRecDepth 100000
def Ur (x0:Int):M (Bool):=do
 let Xx3←M.ite (decide (x0 ≥ 97)) (do
  M.pure (decide (x0≤122))
  ) (do
  M.pure false
  )
 let Xx4←M.ite Xx3 (do
  M.pure true
  ) (do
  let Xx5←M.ite (decide (x0 ≥ 65)) (do
   M.pure (decide (x0≤90))
   ) (do
   M.pure false
   )
  M.pure Xx5
  )
 let Xx6←M.ite Xx4 (do
  M.pure true
  ) (do
  M.pure (x0 == 95)
  )
 M.pure Xx6
theorem KAT (x0:Int):Ku Go.Proofs.Tryz.prog 177 #[.int .u8 x0] (fun (r:Bool)=>.bool r) (Ur x0) :=
 KQ [] [] [.B] [(0,.I .u8 x0)] .o Go.Proofs.Tryz.func177 rfl rfl ⟨rfl,trivial⟩ rfl (by kernel_rfl) (by kernel_rfl)
noncomputable def GV:CalleeS Go.Proofs.Tryz.prog:=mkC zL zP [.I .u8] [.B] (fun (t:Int)=>Ur t) (fun (t:Int)=>KAT t)
def Yq (x0:Int):M (Bool):=do
 let Xx3←Ur x0
 let Xx4←M.ite Xx3 (do
  M.pure true
  ) (do
  let Xx5←M.ite (decide (x0 ≥ 48)) (do
   M.pure (decide (x0≤57))
   ) (do
   M.pure false
   )
  M.pure Xx5
  )
 M.pure Xx4
theorem KCX (x0:Int):Ku Go.Proofs.Tryz.prog 212 #[.int .u8 x0] (fun (r:Bool)=>.bool r) (Yq x0) :=
 KQ [GV] [] [.B] [(0,.I .u8 x0)] .o Go.Proofs.Tryz.func212 rfl rfl ⟨rfl,trivial⟩ rfl (by kernel_rfl) (by kernel_rfl)
noncomputable def KCY:CalleeS Go.Proofs.Tryz.prog:=mkC KBC KBI [.I .u8] [.B] (fun (t:Int)=>Yq t) (fun (t:Int)=>KCX t)
def Xx (C5:ByteArray) (C6:Int) (self1:(Int)→M (Int)):(Int)→M (Int):=fun s=>match s with
 | Xx4=>do
  let Xx10←M.ite (decide (Xx4 < (C5.size:Int))) (do
   let Xx11←ixS C5 Xx4
   let Xx12←Yq Xx11
   M.pure Xx12
   ) (do
   M.pure false
   )
  M.ite Xx10 (do
   self1 (IntKind.wrap .i64 (Xx4+1))
   ) (do
   M.pure (IntKind.wrap .i64 (Xx4 - C6))
   )
def YD (x0:ByteArray) (x1:Int):M (Int):=do
 M.loop (Xx x0 x1) x1
theorem KDP (x0:ByteArray) (x1:Int):Ku Go.Proofs.Tryz.prog 178 #[.string x0,.int .i64 x1] (fun (r:Int)=>.int .i64 r) (YD x0 x1) :=
 KQ [KCY] [] [.I .i64] [(0,.S x0),(1,.I .i64 x1)] (.q .o (.q .o (.q (.b (.l [(0,.S),(1,.I .i64)] [(5,.I .i64)] (fun (t:ByteArray × Int)=>Xx t.1 t.2) (fun _=>.o))) .o))) Go.Proofs.Tryz.func178 rfl rfl ⟨rfl,rfl,trivial⟩ rfl (by kernel_rfl) (by kernel_rfl)
noncomputable def KDQ:CalleeS Go.Proofs.Tryz.prog:=mkC KCE KCK [.S,.I .i64] [.I .i64] (fun (t:ByteArray × Int)=>YD t.1 t.2) (fun (t:ByteArray × Int)=>KDP t.1 t.2)
def We (self1:(Int)→M (Int)) (Xx9:Int):M (Int):=do
 self1 (IntKind.wrap .i64 (Xx9+1))
def XK (C5:ByteArray) (self1:(Int)→M (Int)):(Int)→M (Int):=fun s=>match s with
 | Xx4=>do
  M.ite (decide (Xx4 < (C5.size:Int))) (do
   let Xx12←ixS C5 Xx4
   M.ite (Xx12 == 92) (do
    We self1 (IntKind.wrap .i64 (Xx4+1))
    ) (do
    M.ite (Xx12 == 39) (do
     M.pure (IntKind.wrap .i64 (Xx4+1))
     ) (do
     We self1 Xx4
     )
    )
   ) (do
   M.pure 0
   )
def Yr (x0:ByteArray):M (Int):=do
 M.loop (XK x0) 1
theorem KCZ (x0:ByteArray):Ku Go.Proofs.Tryz.prog 179 #[.string x0] (fun (r:Int)=>.int .i64 r) (Yr x0) :=
 KQ [] [] [.I .i64] [(0,.S x0)] (.q .o (.q (.q .o (.b (.l [(0,.S)] [(3,.I .i64)] (fun (t:ByteArray)=>XK t) (fun self1=>.q .o (.q .o (.j [(0,.S),(3,.I .i64)] (fun (t:ByteArray × Int)=>We self1 t.2) .o)))))) .o)) Go.Proofs.Tryz.func179 rfl rfl ⟨rfl,trivial⟩ rfl (by kernel_rfl) (by kernel_rfl)
noncomputable def KCa:CalleeS Go.Proofs.Tryz.prog:=mkC KBA KBG [.S] [.I .i64] (fun (t:ByteArray)=>Yr t) (fun (t:ByteArray)=>KCZ t)
def ZF (C5:Sl) (C6:Value) (C7:Int) (self1:(Int)→M (Int)):(Int)→M (Int):=fun s=>match s with
 | Xx4=>do
  M.ite (decide (Xx4 < C7)) (do
   let Xx14←ixL C5 Xx4 4
   let Xx15←ldG 4 Xx14
   let Xx16←YM Go.Proofs.Tryz.prog (fun r:Bool=>.bool r) C6 [.agg Xx15]
   M.ite Xx16 (do
    M.pure Xx4
    ) (do
    self1 (IntKind.wrap .i64 (Xx4+1))
    )
   ) (do
   M.pure (-1)
   )
def Kw (x0:Sl) (x1:Value):M (Int):=do
 M.loop (ZF x0 x1 (x0.len:Int)) 0
theorem UL (x0:Sl) (x1:Value):Ku Go.Proofs.Tryz.prog 205 #[(x0:Sl).v,x1] (fun (r:Int)=>.int .i64 r) (Kw x0 x1) :=
 KQ [] [] [.I .i64] [(0,.L x0),(1,.V x1)] (.q .o (.q (.q .o (.b (.l [(0,.L),(1,.V),(7,.I .i64)] [(8,.I .i64)] (fun (t:Sl × Value × Int)=>ZF t.1 t.2.1 t.2.2) (fun _=>.o)))) .o)) Go.Proofs.Tryz.func205 rfl rfl ⟨rfl,rfl,trivial⟩ rfl (by kernel_rfl) (by kernel_rfl)
noncomputable def UM:CalleeS Go.Proofs.Tryz.prog:=mkC UE UF [.L,.V] [.I .i64] (fun (t:Sl × Value)=>Kw t.1 t.2) (fun (t:Sl × Value)=>UL t.1 t.2)
def Ka (x0:Sl) (x1:Value):M (Bool):=do
 let Xx3←Kw x0 x1
 M.pure (decide (Xx3 ≥ 0))
theorem J1 (x0:Sl) (x1:Value):Ku Go.Proofs.Tryz.prog 165 #[(x0:Sl).v,x1] (fun (r:Bool)=>.bool r) (Ka x0 x1) :=
 KQ [UM] [] [.B] [(0,.L x0),(1,.V x1)] .o Go.Proofs.Tryz.func165 rfl rfl ⟨rfl,rfl,trivial⟩ rfl (by kernel_rfl) (by kernel_rfl)
noncomputable def J2:CalleeS Go.Proofs.Tryz.prog:=mkC Jw Jx [.L,.V] [.B] (fun (t:Sl × Value)=>Ka t.1 t.2) (fun (t:Sl × Value)=>J1 t.1 t.2)
def Vt (C12:Addr) (C13:Addr):M (Bool):=do
 let Xx15←ldI .i64 ((C12).add 1)
 let Xx16←M.ite (Xx15 == 0) (do
  let Xx17←ldS ((C12).add 2)
  M.pure (sEq Xx17 ByteArray.empty)
  ) (do
  M.pure false
  )
 let Xx18←M.ite Xx16 (do
  let Xx19←ldL ((C12).add 3)
  let Xx20←Ka Xx19 (Value.func (.func KAH) #[] #[.pointer (some C13)])
  M.pure (!Xx20)
  ) (do
  M.pure false
  )
 M.pure Xx18
def Xy (C61:Addr) (C62:Addr) (self1:(Int)→M (Bool)):(Int)→M (Bool):=fun s=>match s with
 | Xx60=>do
  let Xx66←ldL ((C61).add 3)
  M.ite (decide (Xx60 < (Xx66.len:Int))) (do
   let Xx69←ldL ((C61).add 3)
   let Xx70←ixL Xx69 (IntKind.wrap .i64 (Xx60 - 2)) 4
   let Xx71←ldG 4 Xx70
   let Xx72←ldL ((C61).add 3)
   let Xx73←ixL Xx72 Xx60 4
   let Xx74←ldG 4 Xx73
   let Xx75←UY Xx71 Xx74
   M.ite (decide (Xx75 ≥ 0)) (do
    M.pure false
    ) (do
    self1 (IntKind.wrap .i64 (Xx60+2))
    )
   ) (do
   Vt C61 C62
   )
def Vu (C32:Addr) (C33:Addr) (C34:Bool) (C35:Int) (Xx31:Bool):M (Bool):=do
 M.ite Xx31 (do
  let Xx37←M.ite C34 (do
   let Xx38←ldI .i64 ((C32).add 1)
   M.pure (decide (Xx38 ≥ 1))
   ) (do
   M.pure false
   )
  let Xx39←M.ite Xx37 (do
   let Xx40←ldI .i64 ((C32).add 1)
   M.pure (decide (Xx40≤281474976710656))
   ) (do
   M.pure false
   )
  M.pure Xx39
  ) (do
  M.ite (C35 == 2) (do
   let Xx43←ldI .i64 ((C32).add 1)
   let Xx44←M.ite (Xx43 == 0) (do
    let Xx45←ldL ((C32).add 3)
    M.pure ((Xx45.len:Int) == 0)
    ) (do
    M.pure false
    )
   let Xx46←M.ite Xx44 (do
    let Xx47←ldS ((C32).add 2)
    M.pure (decide ((Xx47.size:Int)≤128))
    ) (do
    M.pure false
    )
   M.pure Xx46
   ) (do
   M.ite (C35 == 4) (do
    let Xx50←ldL ((C32).add 3)
    M.ite (decide ((Xx50.len:Int) > 256)) (do
     M.pure false
     ) (do
     Vt C32 C33
     )
    ) (do
    M.ite (C35 == 5) (do
     let Xx55←ldL ((C32).add 3)
     let Xx56←M.ite (decide ((Xx55.len:Int) > 512)) (do
      M.pure true
      ) (do
      let Xx57←ldL ((C32).add 3)
      M.pure ((Int.tmod (Xx57.len:Int) 2) == 1)
      )
     M.ite Xx56 (do
      M.pure false
      ) (do
      M.loop (Xy C32 C33) 2
      )
     ) (do
     M.pure false
     )
    )
   )
  )
def YE (x0:Array Value) (x1:Int):M (Bool):=do
 let Xx2←mkB KI x0
 let Xx3←mkB XT #[.int .i64 x1]
 let Xx6←ldI .i64 Xx3
 M.ite (decide (Xx6 > 8)) (do
  M.pure false
  ) (do
  let Xx9←ldS ((Xx2).add 2)
  let Xx10←M.ite (sEq Xx9 ByteArray.empty) (do
   let Xx11←ldL ((Xx2).add 3)
   M.pure ((Xx11.len:Int) == 0)
   ) (do
   M.pure false
   )
  let Xx22←ldI .i64 ((Xx2).add 0)
  M.ite (Xx22 == 1) (do
   M.pure Xx10
   ) (do
   M.ite (Xx22 == 3) (do
    let Xx27←M.ite Xx10 (do
     let Xx28←ldI .i64 ((Xx2).add 1)
     let Xx29←M.ite (Xx28 == 0) (do
      M.pure true
      ) (do
      let Xx30←ldI .i64 ((Xx2).add 1)
      M.pure (Xx30 == 1)
      )
     M.pure Xx29
     ) (do
     M.pure false
     )
    M.pure Xx27
    ) (do
    M.ite (Xx22 == 6) (do
     Vu Xx2 Xx3 Xx10 Xx22 (Xx22 == 6)
     ) (do
     Vu Xx2 Xx3 Xx10 Xx22 (Xx22 == 7)
     )
    )
   )
  )
theorem KDR (x0:Array Value) (x1:Int):Ku Go.Proofs.Tryz.prog 201 #[.agg x0,.int .i64 x1] (fun (r:Bool)=>.bool r) (YE x0 x1) :=
 KQ [zZ,J2] [] [.B] [(0,.G x0),(1,.I .i64 x1)] (.q .o (.q .o (.q .o (.q (.q .o (.b (.q .o (.q .o (.q .o (.q .o (.q .o (.j [(2,.A),(3,.A),(5,.B),(19,.I .i64),(36,.B)] (fun (t:Addr × Addr × Bool × Int × Bool)=>Vu t.1 t.2.1 t.2.2.1 t.2.2.2.1 t.2.2.2.2) (.q .o (.q .o (.q .o (.q .o (.q .o (.q .o (.q (.q .o (.q .o (.b (.l [(2,.A),(3,.A)] [(6,.I .i64)] (fun (t:Addr × Addr)=>Xy t.1 t.2) (fun _=>.q .o (.q (.b (.q (.r [0,1,0,4,10,16,0,64,0,384,512,1056,2048] [0,1,0,4,10,16,0,64,0,384,512,1056,2048] [0,1,0,4,15,31,0,64,0,448,960,2047,4095] (.pu 0 (.pu 2 (.pu 3 (.pu 6 (.pu 8 (.pu 1 (.pu 4 (.pu 5 (.pu 7 (.pu 9 (.pu 10 (.st [11,12] (.on 11 (.pu 12 (.nx .dn)))))))))))))))) .o)) .o)))))) .o))))))))))))))) (.j [(2,.A),(3,.A)] (fun (t:Addr × Addr)=>Vt t.1 t.2) .o))))) Go.Proofs.Tryz.func201 rfl rfl ⟨rfl,rfl,trivial⟩ rfl (by kernel_rfl) (by kernel_rfl)
noncomputable def za:CalleeS Go.Proofs.Tryz.prog:=mkC KCI KCM [.G,.I .i64] [.B] (fun (t:Array Value × Int)=>YE t.1 t.2) (fun (t:Array Value × Int)=>KDR t.1 t.2)
def YF (x0:Array Value):M (Int):=do
 let Xx2←mkB KI x0
 let Xx5←ldG 4 Xx2
 let Xx6←YE Xx5 1
 M.ite (!Xx6) (do
  M.pure 20
  ) (do
  M.pure 0
  )
theorem KBR (x0:Array Value):Ku Go.Proofs.Tryz.prog 153 #[.agg x0] (fun (r:Int)=>.int .i64 r) (YF x0) :=
 KQ [za] [] [.I .i64] [(0,.G x0)] .o Go.Proofs.Tryz.func153 rfl rfl ⟨rfl,trivial⟩ rfl (by kernel_rfl) (by kernel_rfl)
noncomputable def KBS:CalleeS Go.Proofs.Tryz.prog:=mkC KAF KAK [.G] [.I .i64] (fun (t:Array Value)=>YF t) (fun (t:Array Value)=>KBR t)
def VX (x0:ByteArray):M (Array Value × Int × Int):=do
 let Xx2←mkB KI (#[.int .i64 0,.int .i64 0,.string ByteArray.empty,.slice none 0 0]:Array Value)
 let Xx4←KAq Go.Proofs.Tryz.prog WZ #[.string x0] (fun r:Array Value × Int × Bool=>.tuple #[.agg r.1,.int .i64 r.2.1,.bool r.2.2])
 let Xx5←mkB KI (#[.int .i64 0,.int .i64 0,.string ByteArray.empty,.slice none 0 0]:Array Value)
 M.need (Xx4.1.size=4)
 stG Xx5 Xx4.1
 M.ite (!Xx4.2.2) (do
  M.need ((#[.int .i64 0,.int .i64 0,.string ByteArray.empty,.slice none 0 0]:Array Value).size=4)
  stG Xx2 (#[.int .i64 0,.int .i64 0,.string ByteArray.empty,.slice none 0 0]:Array Value)
  let Rr11←ldG 4 Xx2
  M.pure (Rr11,Xx4.2.1,22)
  ) (do
  let Xx13←ldG 4 Xx5
  let Xx14←YF Xx13
  M.ite (Xx14 != 0) (do
   M.need ((#[.int .i64 0,.int .i64 0,.string ByteArray.empty,.slice none 0 0]:Array Value).size=4)
   stG Xx2 (#[.int .i64 0,.int .i64 0,.string ByteArray.empty,.slice none 0 0]:Array Value)
   let Rr17←ldG 4 Xx2
   M.pure (Rr17,0,20)
   ) (do
   let Xx19←ldG 4 Xx5
   M.need (Xx19.size=4)
   stG Xx2 Xx19
   let Rr21←ldG 4 Xx2
   M.pure (Rr21,0,0)
   )
  )
theorem KBT (x0:ByteArray):Ku Go.Proofs.Tryz.prog 180 #[.string x0] (fun (r:Array Value × Int × Int)=>.tuple #[.agg r.1,.int .i64 r.2.1,.int .i64 r.2.2]) (VX x0) :=
 KQ [KBS,mkC WZ KBL [.S] [.G,.I .i64,.B] (fun (t:ByteArray)=>KAq Go.Proofs.Tryz.prog WZ #[.string t] (fun r:Array Value × Int × Bool=>.tuple #[.agg r.1,.int .i64 r.2.1,.bool r.2.2])) (fun (t:ByteArray)=>Y2)] [] [.G,.I .i64,.I .i64] [(0,.S x0)] .o Go.Proofs.Tryz.func180 rfl rfl ⟨rfl,trivial⟩ rfl (by kernel_rfl) (by kernel_rfl)
noncomputable def KBU:CalleeS Go.Proofs.Tryz.prog:=mkC KAG KAL [.S] [.G,.I .i64,.I .i64] (fun (t:ByteArray)=>VX t) (fun (t:ByteArray)=>KBT t)
def Ys (C42:ByteArray) (C43:Addr) (Xx41:Int):M (Array Value × Int):=do
 let Xx45←slS C42 0 Xx41
 let Xx46←VX Xx45
 let Xx47←mkB KI (#[.int .i64 0,.int .i64 0,.string ByteArray.empty,.slice none 0 0]:Array Value)
 M.need (Xx46.1.size=4)
 stG Xx47 Xx46.1
 let Xx51←M.ite (Xx46.2.2 != 0) (do
  M.pure true
  ) (do
  let Xx52←ldI .i64 ((Xx47).add 0)
  M.pure (Xx52 != 1)
  )
 M.ite Xx51 (do
  M.need ((#[.int .i64 0,.string ByteArray.empty,.int .i64 0,.int .i64 0]:Array Value).size=4)
  stG C43 (#[.int .i64 0,.string ByteArray.empty,.int .i64 0,.int .i64 0]:Array Value)
  let Rr55←ldG 4 C43
  M.pure (Rr55,0)
  ) (do
  let Xx57←ldI .i64 ((Xx47).add 1)
  M.need ((#[.int .i64 2,.string ByteArray.empty,.int .i64 Xx57,.int .i64 0]:Array Value).size=4)
  stG C43 (#[.int .i64 2,.string ByteArray.empty,.int .i64 Xx57,.int .i64 0]:Array Value)
  let Rr59←ldG 4 C43
  M.pure (Rr59,Xx41)
  )
def zb (x0:ByteArray):M (Array Value × Int):=do
 let Xx2←mkB KR (#[.int .i64 0,.string ByteArray.empty,.int .i64 0,.int .i64 0]:Array Value)
 let Xx5←ixS x0 0
 let Xx7←Wp Xx5
 M.ite Xx7 (do
  let Xx9←slS x0 0 1
  M.need ((#[.int .i64 4,.string Xx9,.int .i64 0,.int .i64 0]:Array Value).size=4)
  stG Xx2 (#[.int .i64 4,.string Xx9,.int .i64 0,.int .i64 0]:Array Value)
  let Rr11←ldG 4 Xx2
  M.pure (Rr11,1)
  ) (do
  let Xx13←Ur Xx5
  M.ite Xx13 (do
   let Xx15←YD x0 0
   let Xx17←slS x0 0 Xx15
   M.need ((#[.int .i64 1,.string Xx17,.int .i64 0,.int .i64 0]:Array Value).size=4)
   stG Xx2 (#[.int .i64 1,.string Xx17,.int .i64 0,.int .i64 0]:Array Value)
   let Rr19←ldG 4 Xx2
   M.pure (Rr19,Xx15)
   ) (do
   M.ite (Xx5 == 39) (do
    let Xx22←Yr x0
    let Xx24←slS x0 0 Xx22
    let Xx25←VX Xx24
    let Xx26←mkB KI (#[.int .i64 0,.int .i64 0,.string ByteArray.empty,.slice none 0 0]:Array Value)
    M.need (Xx25.1.size=4)
    stG Xx26 Xx25.1
    let Xx30←M.ite (Xx25.2.2 != 0) (do
     M.pure true
     ) (do
     let Xx31←ldI .i64 ((Xx26).add 0)
     M.pure (Xx31 != 2)
     )
    M.ite Xx30 (do
     M.need ((#[.int .i64 0,.string ByteArray.empty,.int .i64 0,.int .i64 0]:Array Value).size=4)
     stG Xx2 (#[.int .i64 0,.string ByteArray.empty,.int .i64 0,.int .i64 0]:Array Value)
     let Rr34←ldG 4 Xx2
     M.pure (Rr34,0)
     ) (do
     let Xx36←ldS ((Xx26).add 2)
     M.need ((#[.int .i64 3,.string Xx36,.int .i64 0,.int .i64 0]:Array Value).size=4)
     stG Xx2 (#[.int .i64 3,.string Xx36,.int .i64 0,.int .i64 0]:Array Value)
     let Rr38←ldG 4 Xx2
     M.pure (Rr38,Xx22)
     )
    ) (do
    let Xx40←YD x0 0
    let Xx61←ixS x0 0
    M.ite (Xx61 == 45) (do
     let Xx62←YD x0 1
     Ys x0 Xx2 (IntKind.wrap .i64 (1+Xx62))
     ) (do
     Ys x0 Xx2 Xx40
     )
    )
   )
  )
theorem KCb (x0:ByteArray):Ku Go.Proofs.Tryz.prog 126 #[.string x0] (fun (r:Array Value × Int)=>.tuple #[.agg r.1,.int .i64 r.2]) (zb x0) :=
 KQ [GV,KDQ,KCa,KBU,qV] [] [.G,.I .i64] [(0,.S x0)] (.q .o (.q .o (.q .o (.q .o (.j [(0,.S),(2,.A),(10,.I .i64)] (fun (t:ByteArray × Addr × Int)=>Ys t.1 t.2.1 t.2.2) .o))))) Go.Proofs.Tryz.func126 rfl rfl ⟨rfl,trivial⟩ rfl (by kernel_rfl) (by kernel_rfl)
noncomputable def KIa:Array Oper:=KFb Go.Proofs.Tryz.f93 3
def KIb:List (List Nat):=[[],[0],[1],[2],[],[4],[5],[6],[3,7],[8],[9],[10],[10],[],[13,11,9,0,1,2,3,4,5,6,7,8,9,10,11,13],[12,14,0,1,2,3,4,5,6,7,8,9,10,11,12,13,14]]
def KIc:List (List Nat):=[[],[0],[1],[2],[],[4],[5],[6],[3,7],[8],[9],[10],[10],[],[11,13],[12]]
def KId:List (List Nat):=[[],[0],[0,1],[0,1,2],[],[4],[4,5],[4,5,6],[0,1,2,3,4,5,6,7],[0,1,2,3,4,5,6,7,8],[0,1,2,3,4,5,6,7,8,9],[0,1,2,3,4,5,6,7,8,9,10],[0,1,2,3,4,5,6,7,8,9,10],[],[0,1,2,3,4,5,6,7,8,9,10,11,13],[0,1,2,3,4,5,6,7,8,9,10,11,12,13,14]]
theorem KLA:KAB Go.Proofs.Tryz.f93 3 KIb KIc KId=true:=by kernel_rfl
theorem KJe:KB2 16 KIb KIc KId [0,1,2,4,0,16,32,64,136,256,512,1024,1024,0,12287,32767] [0,1,2,4,0,16,32,64,136,256,512,1024,1024,0,10240,4096] [0,1,3,7,0,16,48,112,255,511,1023,2047,2047,0,12287,32767]=true:=by kernel_rfl
def Jc (x0:Option Addr):M (Array Value × Bool):=do
 let Xx2←mkB KR (#[.int .i64 0,.string ByteArray.empty,.int .i64 0,.int .i64 0]:Array Value)
 let Xx5←Jg x0
 M.ite (!Xx5) (do
  M.need ((#[.int .i64 0,.string ByteArray.empty,.int .i64 0,.int .i64 0]:Array Value).size=4)
  stG Xx2 (#[.int .i64 0,.string ByteArray.empty,.int .i64 0,.int .i64 0]:Array Value)
  let Rr8←ldG 4 Xx2
  M.pure (Rr8,false)
  ) (do
  let Xx10←nilP x0
  let Xx11←nilP x0
  let Xx12←ldS ((Xx10).add 0)
  let Xx13←ldI .i64 ((Xx11).add 1)
  let Xx14←slS Xx12 Xx13 Xx12.size
  let y_19←do
   M.both (do
    let Xx15←zb Xx14
    chk (fun h:Heap=>(KM h ((Xx10).add 0)=some (.string Xx12))∧(KM h ((Xx11).add 1)=some (.int .i64 Xx13)))
    let Xx16←mkB KR (#[.int .i64 0,.string ByteArray.empty,.int .i64 0,.int .i64 0]:Array Value)
    chk (fun h:Heap=>(KM h ((Xx10).add 0)=some (.string Xx12))∧(KM h ((Xx11).add 1)=some (.int .i64 Xx13)))
    M.pure (Xx16,Xx15,Xx15,Xx15.1,Xx15.2)
    ) (do
    let Xx17←mkB KR (#[.int .i64 0,.string ByteArray.empty,.int .i64 0,.int .i64 0]:Array Value)
    chk (fun h:Heap=>(KM h ((Xx10).add 0)=some (.string Xx12))∧(KM h ((Xx11).add 1)=some (.int .i64 Xx13)))
    let Xx18←zb Xx14
    M.pure (Xx17,Xx18,Xx18,Xx18.1,Xx18.2)
    )
  M.need (y_19.2.2.2.1.size=4)
  stG y_19.1 y_19.2.2.2.1
  let Xx22←nilP x0
  let Xx23←ldI .i64 ((Xx22).add 1)
  stV ((y_19.1).add 3) (.int .i64 Xx23)
  let Xx27←M.ite (y_19.2.2.2.2 == 0) (do
   M.pure true
   ) (do
   let Xx28←ldG 4 y_19.1
   let Xx29←U1 Xx28
   M.pure (Xx29 != 0)
   )
  M.ite Xx27 (do
   M.need ((#[.int .i64 0,.string ByteArray.empty,.int .i64 0,.int .i64 0]:Array Value).size=4)
   stG Xx2 (#[.int .i64 0,.string ByteArray.empty,.int .i64 0,.int .i64 0]:Array Value)
   let Rr32←ldG 4 Xx2
   M.pure (Rr32,false)
   ) (do
   let Xx34←nilP x0
   let Xx35←ldI .i64 ((Xx34).add 1)
   let Xx36←nilP x0
   stV ((Xx36).add 1) (.int .i64 (IntKind.wrap .i64 (Xx35+y_19.2.2.2.2)))
   let Xx39←ldG 4 y_19.1
   M.need (Xx39.size=4)
   stG Xx2 Xx39
   let Rr41←ldG 4 Xx2
   M.pure (Rr41,true)
   )
  )
theorem Nb (x0:Option Addr):Ku Go.Proofs.Tryz.prog 93 #[.pointer x0] (fun (r:Array Value × Bool)=>.tuple #[.agg r.1,.bool r.2]) (Jc x0):=by
 refine KDq [(0,.pointer x0)] Go.Proofs.Tryz.func93 rfl rfl (Nat.le_of_ble_eq_true rfl) (VP ⟨rfl,trivial⟩) (fun w0 w Q R a hret hE hR H=>?_)
 unfold Jc at H
 refine KW (fun K hK_1=>?_)
 refine KD ?_
 obtain ⟨Xx2,qXx2,H⟩:=H
 refine Wu (v:=.pointer (some Xx2)) rfl rfl hE rfl hR (Uc zr29 qXx2) (fun a w hE hR hh=>?_)
 replace H:=M.at hh H; clear hh
 refine KC (v:=.bool false) rfl rfl hE rfl (KZ hE rfl) (fun a hE=>?_)
 refine KV ?_
 refine hK_1 _ _ ?_
 refine KW (fun K hK_3=>?_)
 refine KW (fun K hK_4=>?_)
 refine KD ?_
 refine KC (v:=.pointer x0) rfl rfl hE rfl (KE hE rfl) (fun a hE=>?_)
 refine J5 hE hR Vo rfl (WR x0) (M.unbind H) (fun Xx5 a w ea hR H=>?_)
 have hE:=Env.put_some hE rfl ea; clear ea
 refine KC (v:=.bool (!Xx5)) rfl rfl hE rfl (r_un hE rfl KG8) (fun a hE=>?_)
 refine KV ?_
 refine hK_4 _ _ ?_
 refine Z6 (!Xx5) hE rfl (fun hb=>?_) (fun hb=>?_)
 ·replace H:=M.ite_t hb H
  refine KW (fun K hK_6=>?_)
  refine KD ?_
  refine KC (v:=.agg (#[.int .i64 0,.string ByteArray.empty,.int .i64 0,.int .i64 0]:Array Value)) rfl rfl hE rfl (qm bd29) (fun a hE=>?_)
  obtain ⟨qz,H⟩:=H
  obtain ⟨u_7,qu_7,H⟩:=H
  refine UK rfl rfl hE hR (Z4 hE rfl rfl sz29 qz qu_7) (fun a w hE hR hh=>?_)
  replace H:=M.at hh H; clear hh
  refine KC (v:=.bool false) rfl rfl hE rfl (KZ hE rfl) (fun a hE=>?_)
  refine KV ?_
  refine hK_6 _ _ ?_
  refine Ve ?_
  obtain ⟨Rr8,qRr8,H⟩:=H
  exact hret _ _ _ (Rr8,false) _ hE hR (Zq hE rfl (RV.cellG rfl ag29 qRr8 (RV.tmp rfl RV.nil))) rfl H
 ·replace H:=M.ite_f hb H
  refine Jp ?_
  refine hK_3 _ _ ?_
  refine KW (fun K hK_9=>?_)
  obtain ⟨Xx10,qXx10,H⟩:=H
  obtain ⟨Xx11,qXx11,H⟩:=H
  obtain ⟨Xx12,qXx12,H⟩:=H
  obtain ⟨Xx13,qXx13,H⟩:=H
  obtain ⟨Xx14,qXx14,H⟩:=H
  refine XR (rops:=KIa) (by kernel_rfl) ?_
  have hT:Tab KIa _ _ _:=Wv KLA rfl (by kernel_rfl)
  have hM:=TabM.of KJe
  refine Ue (m:=16) (fun w:World=>(fun h:Heap=>(KM h ((Xx10).add 0)=some (.string Xx12))∧(KM h ((Xx11).add 1)=some (.int .i64 Xx13))) w.heap) [8,9,10,11,12,14,15] (unb 16 0) mo hR (by kernel_rfl) (by kernel_rfl) (fun w' e=>by rw [e]; exact ⟨qXx12,qXx13⟩) (fun w hh hR hs=>?_)
  replace H:=M.at hh H; clear hh
  refine KB (i:=0) (v:=.pointer x0) (unb 16 1) rfl rfl hT (anyM hM (by kernel_rfl)) hE rfl (KA rfl) (fun w=>KE hE rfl) (fun a hE=>?_)
  refine KB (i:=1) (v:=.pointer (some Xx10)) (unb 16 3) rfl rfl hT (anyM hM (by kernel_rfl)) hE rfl (KA rfl) (fun w=>KJ hE (Zr rfl (congrArg Value.pointer qXx10))) (fun a hE=>?_)
  refine KB (i:=2) (v:=.pointer (some ((Xx10).add 0))) (unb 16 7) rfl rfl hT (anyM hM (by kernel_rfl)) hE rfl (KA rfl) (fun w=>KH hE rfl KK8) (fun a hE=>?_)
  refine KB (i:=4) (v:=.pointer x0) (unb 16 23) rfl rfl hT (anyM hM (by kernel_rfl)) hE rfl (KA rfl) (fun w=>KE hE rfl) (fun a hE=>?_)
  refine KB (i:=5) (v:=.pointer (some Xx11)) (unb 16 55) rfl rfl hT (anyM hM (by kernel_rfl)) hE rfl (KA rfl) (fun w=>KJ hE (Zr rfl (congrArg Value.pointer qXx11))) (fun a hE=>?_)
  refine KB (i:=6) (v:=.pointer (some ((Xx11).add 1))) (unb 16 119) rfl rfl hT (anyM hM (by kernel_rfl)) hE rfl (KA rfl) (fun w=>KH hE rfl KCN) (fun a hE=>?_)
  refine Je (i:=3) (v:=.string Xx12) (unb 16 127) rfl rfl hT (VQ hM (by kernel_rfl)) hE rfl (KA rfl) hs (fun w s=>ZA hE rfl sc9 s.1) (fun a hE=>?_)
  refine Je (i:=7) (v:=.int .i64 Xx13) (unb 16 255) rfl rfl hT (VQ hM (by kernel_rfl)) hE rfl (KA rfl) hs (fun w s=>ZA hE rfl sc3 s.2) (fun a hE=>?_)
  refine KB (i:=8) (v:=.string Xx14) (unb 16 511) rfl rfl hT (anyM hM (by kernel_rfl)) hE rfl (KA rfl) (fun w=>KAc hE rfl rfl un9 qXx14) (fun a hE=>?_)
  refine KKF (n:=(⟨45,[]⟩:Frm)) (w0:=w0) (fun y_19:Addr × (Array Value × Int) × (Array Value × Int) × Array Value × Int=>[(0,.pointer x0),(2,.pointer (some Xx2)),(3,.bool false),(6,.pointer x0),(7,.bool Xx5),(8,.bool (!Xx5)),(11,.pointer x0),(12,.pointer (some Xx10)),(13,.pointer (some ((Xx10).add 0))),(15,.pointer x0),(16,.pointer (some Xx11)),(17,.pointer (some ((Xx11).add 1))),(14,.string Xx12),(18,.int .i64 Xx13),(19,.string Xx14),(4,.pointer (some y_19.1)),(10,.tuple #[.agg y_19.2.1.1,.int .i64 y_19.2.1.2]),(20,.tuple #[.agg y_19.2.2.1.1,.int .i64 y_19.2.2.1.2]),(21,.agg y_19.2.2.2.1),(22,.int .i64 y_19.2.2.2.2)]) 2 (unb 16 16383) (M.unbind H) ?_ ?_
  ·intro y_19 a w hE hR H
   obtain ⟨qz,H⟩:=H
   obtain ⟨u_20,qu_20,H⟩:=H
   refine zC (i:=14) (unb 16 32767) rfl rfl hT (oneM hM (by kernel_rfl)) rfl hE hR (KA rfl) (Z4 hE rfl rfl sz29 qz qu_20)  (fun a w hE hR hh=>?_)
   replace H:=M.at hh H; clear hh
   refine KB (i:=15) (v:=.int .i64 y_19.2.2.2.2) (unb 16 65535) rfl rfl hT (anyM hM (by kernel_rfl)) hE rfl (KA rfl) (fun w=>KZ hE rfl) (fun a hE=>?_)
   refine WO hT (Nv hM (by kernel_rfl)) ?_
   refine hK_9 _ _ ?_
   refine KW (fun K hK_21=>?_)
   refine KD ?_
   refine KC (v:=.pointer x0) rfl rfl hE rfl (KE hE rfl) (fun a hE=>?_)
   obtain ⟨Xx22,qXx22,H⟩:=H
   refine KC (v:=.pointer (some Xx22)) rfl rfl hE rfl (KJ hE (Zr rfl (congrArg Value.pointer qXx22))) (fun a hE=>?_)
   refine KC (v:=.pointer (some ((Xx22).add 1))) rfl rfl hE rfl (KH hE rfl KCN) (fun a hE=>?_)
   obtain ⟨Xx23,qXx23,H⟩:=H
   refine KC (v:=.int .i64 Xx23) rfl rfl hE rfl (ZA hE rfl sc3 qXx23) (fun a hE=>?_)
   refine KC (v:=.pointer (some ((y_19.1).add 3))) rfl rfl hE rfl (KH hE rfl KIZ) (fun a hE=>?_)
   obtain ⟨u_24,qu_24,H⟩:=H
   refine UK rfl rfl hE hR (ZZ hE rfl rfl sz3 qu_24) (fun a w hE hR hh=>?_)
   replace H:=M.at hh H; clear hh
   refine KV ?_
   refine hK_21 _ _ ?_
   refine KW (fun K hK_25=>?_)
   refine KW (fun K hK_26=>?_)
   refine KD ?_
   refine KC (v:=.int .i64 y_19.2.2.2.2) rfl rfl hE rfl (KE hE rfl) (fun a hE=>?_)
   refine KC (v:=.bool (y_19.2.2.2.2 == 0)) rfl rfl hE rfl (ZC hE rfl rfl Kz Yj) (fun a hE=>?_)
   refine KC (v:=.bool (y_19.2.2.2.2 == 0)) rfl rfl hE rfl (KE hE rfl) (fun a hE=>?_)
   refine KBz (n:=(⟨45,[]⟩:Frm)) (w0:=w0) 4 (fun Xx27:Bool=>[(0,.pointer x0),(2,.pointer (some Xx2)),(4,.pointer (some y_19.1)),(5,.int .i64 y_19.2.2.2.2),(34,.bool Xx27)]) (M.unbind H) (fun Kr hKr H=>?_) ?_
   ·rcases Ud (y_19.2.2.2.2 == 0) with hb | hb
    ·replace H:=M.ite_t hb H
     have hE:=hE.reb 30 (y_19.2.2.2.2 == 0) true hb rfl
     refine XW rfl hE rfl rfl rfl (fun a ea=>?_)
     have hE:=Env.put_some hE rfl ea; clear ea
     refine XW rfl hE rfl rfl rfl (fun a ea=>?_)
     have hE:=Env.put_some hE rfl ea; clear ea
     refine XW rfl hE rfl rfl rfl (fun a ea=>?_)
     have hE:=Env.put_some hE rfl ea; clear ea
     refine KC rfl rfl hE rfl (Jd hE rfl rfl) (fun a hE=>?_)
     refine KV ?_
     exact hKr _ _ _ (hE.cut (.cons rfl (.cons rfl (.cons rfl (.cons rfl (.cons rfl Subs.nil)))))) hR H
    ·replace H:=M.ite_f hb H
     have hE:=hE.reb 30 (y_19.2.2.2.2 == 0) false hb rfl
     refine t_on rfl hE rfl rfl rfl ?_
     obtain ⟨Xx28,qXx28,H⟩:=H
     refine KC (v:=.agg Xx28) rfl rfl hE rfl (Nu hE rfl ag29 qXx28) (fun a hE=>?_)
     refine t_on rfl hE rfl rfl rfl ?_
     refine J5 hE hR qS rfl (zU Xx28) (M.unbind H) (fun Xx29 a w ea hR H=>?_)
     have hE:=Env.put_some hE rfl ea; clear ea
     refine t_on rfl hE rfl rfl rfl ?_
     refine KC (v:=.bool (Xx29 != 0)) rfl rfl hE rfl (ZC hE rfl rfl Kz KBx) (fun a hE=>?_)
     refine KC rfl rfl hE rfl (Z3 hE rfl rfl) (fun a hE=>?_)
     refine KV ?_
     exact hKr _ _ _ (hE.cut (.cons rfl (.cons rfl (.cons rfl (.cons rfl (.cons rfl Subs.nil)))))) hR H
   ·intro Xx27 a w hE hR H
    refine KV ?_
    refine hK_26 _ _ ?_
    refine Z6 Xx27 hE rfl (fun hb=>?_) (fun hb=>?_)
    ·replace H:=M.ite_t hb H
     refine KW (fun K hK_30=>?_)
     refine KD ?_
     refine KC (v:=.agg (#[.int .i64 0,.string ByteArray.empty,.int .i64 0,.int .i64 0]:Array Value)) rfl rfl hE rfl (qm bd29) (fun a hE=>?_)
     obtain ⟨qz,H⟩:=H
     obtain ⟨u_31,qu_31,H⟩:=H
     refine UK rfl rfl hE hR (Z4 hE rfl rfl sz29 qz qu_31) (fun a w hE hR hh=>?_)
     replace H:=M.at hh H; clear hh
     refine KC (v:=.bool false) rfl rfl hE rfl (KZ hE rfl) (fun a hE=>?_)
     refine KV ?_
     refine hK_30 _ _ ?_
     refine Ve ?_
     obtain ⟨Rr32,qRr32,H⟩:=H
     exact hret _ _ _ (Rr32,false) _ hE hR (Zq hE rfl (RV.cellG rfl ag29 qRr32 (RV.tmp rfl RV.nil))) rfl H
    ·replace H:=M.ite_f hb H
     refine Jp ?_
     refine hK_25 _ _ ?_
     refine KW (fun K hK_33=>?_)
     refine KD ?_
     refine KC (v:=.pointer x0) rfl rfl hE rfl (KE hE rfl) (fun a hE=>?_)
     obtain ⟨Xx34,qXx34,H⟩:=H
     refine KC (v:=.pointer (some Xx34)) rfl rfl hE rfl (KJ hE (Zr rfl (congrArg Value.pointer qXx34))) (fun a hE=>?_)
     refine KC (v:=.pointer (some ((Xx34).add 1))) rfl rfl hE rfl (KH hE rfl KCN) (fun a hE=>?_)
     obtain ⟨Xx35,qXx35,H⟩:=H
     refine KC (v:=.int .i64 Xx35) rfl rfl hE rfl (ZA hE rfl sc3 qXx35) (fun a hE=>?_)
     refine KC (v:=.int .i64 y_19.2.2.2.2) rfl rfl hE rfl (KE hE rfl) (fun a hE=>?_)
     refine KC (v:=.int .i64 (IntKind.wrap .i64 (Xx35+y_19.2.2.2.2))) rfl rfl hE rfl (ZC hE rfl rfl Kz Xf) (fun a hE=>?_)
     obtain ⟨Xx36,qXx36,H⟩:=H
     refine KC (v:=.pointer (some Xx36)) rfl rfl hE rfl (KJ hE (Zr rfl (congrArg Value.pointer qXx36))) (fun a hE=>?_)
     refine KC (v:=.pointer (some ((Xx36).add 1))) rfl rfl hE rfl (KH hE rfl KCN) (fun a hE=>?_)
     obtain ⟨u_37,qu_37,H⟩:=H
     refine UK rfl rfl hE hR (ZZ hE rfl rfl sz3 qu_37) (fun a w hE hR hh=>?_)
     replace H:=M.at hh H; clear hh
     refine KV ?_
     refine hK_33 _ _ ?_
     refine KW (fun K hK_38=>?_)
     refine KD ?_
     obtain ⟨Xx39,qXx39,H⟩:=H
     refine KC (v:=.agg Xx39) rfl rfl hE rfl (Nu hE rfl ag29 qXx39) (fun a hE=>?_)
     obtain ⟨qz,H⟩:=H
     obtain ⟨u_40,qu_40,H⟩:=H
     refine UK rfl rfl hE hR (Z4 hE rfl rfl sz29 qz qu_40) (fun a w hE hR hh=>?_)
     replace H:=M.at hh H; clear hh
     refine KC (v:=.bool true) rfl rfl hE rfl (KZ hE rfl) (fun a hE=>?_)
     refine KV ?_
     refine hK_38 _ _ ?_
     refine Ve ?_
     obtain ⟨Rr41,qRr41,H⟩:=H
     exact hret _ _ _ (Rr41,true) _ hE hR (Zq hE rfl (RV.cellG rfl ag29 qRr41 (RV.tmp rfl RV.nil))) rfl H
  ·intro hj H
   refine KKG [9,13] hT (by kernel_rfl) rfl (fun i hi=>?_)
   simp only [List.mem_cons,List.not_mem_nil,or_false] at hi
   rcases hi with rfl | rfl
   ·replace H:=H.1
    refine KKH (S:=fun w:World=>(fun h:Heap=>(KM h ((Xx10).add 0)=some (.string Xx12))∧(KM h ((Xx11).add 1)=some (.int .i64 Xx13))) w.heap) (i:=9) (unb 16 1023) rfl rfl rfl (by kernel_rfl) hE hR (KA rfl) KAi rfl (KCb Xx14) (M.unbind H) (fun r h H w' e=>by obtain ⟨_,sA,H⟩:=H; rw [e]; exact sA) (fun Xx15 a w ea hR H hs=>?_)
    obtain ⟨_,sA,H⟩:=H; clear sA
    have hE:=Env.put_some hE rfl ea; clear ea
    refine KB (i:=10) (v:=.tuple #[.agg Xx15.1,.int .i64 Xx15.2]) (unb 16 2047) rfl rfl hT (anyM hM (by kernel_rfl)) hE rfl (KA rfl) (fun w=>KE hE rfl) (fun a hE=>?_)
    refine KB (i:=11) (v:=.agg Xx15.1) (unb 16 4095) rfl rfl hT (anyM hM (by kernel_rfl)) hE rfl (KA rfl) (fun w=>J4 hE rfl rfl) (fun a hE=>?_)
    refine KB (i:=12) (v:=.int .i64 Xx15.2) (unb 16 8191) rfl rfl hT (anyM hM (by kernel_rfl)) hE rfl (KA rfl) (fun w=>J4 hE rfl rfl) (fun a hE=>?_)
    obtain ⟨Xx16,qXx16,H⟩:=H
    obtain ⟨_,sA,H⟩:=H
    refine KKI (i:=13) (v:=.pointer (some Xx16)) (unb 16 16383) rfl rfl hT (oneM hM (by kernel_rfl)) rfl hE hR rfl (KA rfl) (Uc zr29 qXx16)  (fun w' e=>by rw [e]; exact sA) (fun a w hE hR hh hs=>?_)
    replace H:=M.at hh H; clear hh
    exact hj _ _ _ (hE.cut (.cons rfl (.cons rfl (.cons rfl (.cons rfl (.cons rfl (.cons rfl (.cons rfl (.cons rfl (.cons rfl (.cons rfl (.cons rfl (.cons rfl (.cons rfl (.cons rfl (.cons rfl (.cons rfl (.cons rfl (.cons rfl (.cons rfl (.cons rfl Subs.nil))))))))))))))))))))) hR H
   ·replace H:=H.2
    obtain ⟨Xx17,qXx17,H⟩:=H
    obtain ⟨_,sA,H⟩:=H
    refine KKJ (S:=fun w:World=>(fun h:Heap=>(KM h ((Xx10).add 0)=some (.string Xx12))∧(KM h ((Xx11).add 1)=some (.int .i64 Xx13))) w.heap) (i:=13) (v:=.pointer (some Xx17)) (unb 16 8703) rfl rfl (by kernel_rfl) hE hR rfl (KA rfl) (Uc zr29 qXx17)  (fun w' e=>by rw [e]; exact sA) (fun a w hE hR hh hs=>?_)
    replace H:=M.at hh H; clear hh
    refine KFc (i:=9) (unb 16 9215) rfl rfl rfl hT (oneM hM (by kernel_rfl)) rfl hE hR (KA rfl) KAi rfl (KCb Xx14) (M.unbind H) (fun Xx18 a w ea hR H=>?_)
    have hE:=Env.put_some hE rfl ea; clear ea
    refine KB (i:=10) (v:=.tuple #[.agg Xx18.1,.int .i64 Xx18.2]) (unb 16 10239) rfl rfl hT (anyM hM (by kernel_rfl)) hE rfl (KA rfl) (fun w=>KE hE rfl) (fun a hE=>?_)
    refine KB (i:=11) (v:=.agg Xx18.1) (unb 16 12287) rfl rfl hT (anyM hM (by kernel_rfl)) hE rfl (KA rfl) (fun w=>J4 hE rfl rfl) (fun a hE=>?_)
    refine KB (i:=12) (v:=.int .i64 Xx18.2) (unb 16 16383) rfl rfl hT (anyM hM (by kernel_rfl)) hE rfl (KA rfl) (fun w=>J4 hE rfl rfl) (fun a hE=>?_)
    exact hj _ _ _ (hE.cut (.cons rfl (.cons rfl (.cons rfl (.cons rfl (.cons rfl (.cons rfl (.cons rfl (.cons rfl (.cons rfl (.cons rfl (.cons rfl (.cons rfl (.cons rfl (.cons rfl (.cons rfl (.cons rfl (.cons rfl (.cons rfl (.cons rfl (.cons rfl Subs.nil))))))))))))))))))))) hR H
noncomputable def Nc:CalleeS Go.Proofs.Tryz.prog:=mkC Ga Ge [.P] [.G,.B] (fun (t:Option Addr)=>Jc t) (fun (t:Option Addr)=>Nb t)
def Ui (C1:Value) (C2:Addr) (self1:(Unit)→M (Unit)):(Unit)→M (Unit):=fun s=>match s with
 | ()=>do
  let Xx5←ldP C2
  let Xx6←Jc Xx5
  let Xx7←mkB KR (#[.int .i64 0,.string ByteArray.empty,.int .i64 0,.int .i64 0]:Array Value)
  M.need (Xx6.1.size=4)
  stG Xx7 Xx6.1
  let Xx10←M.ite (!Xx6.2) (do
   M.pure true
   ) (do
   let Xx11←ldG 4 Xx7
   let Xx12←YM Go.Proofs.Tryz.prog (fun r:Bool=>.bool r) C1 [.agg Xx11]
   M.pure (!Xx12)
   )
  M.ite Xx10 (do
   M.pure ()
   ) (do
   self1 ()
   )
def Yt (x0:Value) (x1:Addr):M (Unit):=do
 M.loop (Ui x0 x1) ()
theorem Gr (x0:Value) (x1:Addr):Ku Go.Proofs.Tryz.prog 92 #[x0,.pointer (some x1)] (fun (r:Unit)=>.tuple #[]) (Yt x0 x1) :=
 KQ [Nc] [6] [] [(0,.V x0),(1,.A x1)] (.b (.l [(0,.V),(1,.A)] [] (fun (t:Value × Addr)=>Ui t.1 t.2) (fun _=>.o))) Go.Proofs.Tryz.func92 rfl rfl ⟨rfl,rfl,trivial⟩ rfl (by kernel_rfl) (by kernel_rfl)
def U7 (C6:Addr) (C7:Addr):M (Array Value):=do
 let Xx9←ldG 4 C7
 M.need (Xx9.size=4)
 stG C6 Xx9
 let Rr11←ldG 4 C6
 M.pure Rr11
def Yu (x0:Bool):M (Array Value):=do
 let Xx2←mkB KI (#[.int .i64 0,.int .i64 0,.string ByteArray.empty,.slice none 0 0]:Array Value)
 let Xx4←mkB KI (#[.int .i64 0,.int .i64 0,.string ByteArray.empty,.slice none 0 0]:Array Value)
 M.need ((#[.int .i64 3,.int .i64 0,.string ByteArray.empty,.slice none 0 0]:Array Value).size=4)
 stG Xx4 (#[.int .i64 3,.int .i64 0,.string ByteArray.empty,.slice none 0 0]:Array Value)
 M.ite x0 (do
  stV ((Xx4).add 1) (.int .i64 1)
  U7 Xx2 Xx4
  ) (do
  U7 Xx2 Xx4
  )
theorem qX (x0:Bool):Ku Go.Proofs.Tryz.prog 152 #[.bool x0] (fun (r:Array Value)=>.agg r) (Yu x0) :=
 KQ [] [] [.G] [(0,.B x0)] (.q .o (.q .o (.q .o (.j [(2,.A),(3,.A)] (fun (t:Addr × Addr)=>U7 t.1 t.2) .o)))) Go.Proofs.Tryz.func152 rfl rfl ⟨rfl,trivial⟩ rfl (by kernel_rfl) (by kernel_rfl)
def UH (x0:Int):M (ByteArray):=do
 M.ite (decide (x0 < 10)) (do
  let Xx5←slS (⟨#[48,49,50,51,52,53,54,55,56,57,97,98,99,100,101,102,103,104,105,106,107,108,109,110,111,112,113,114,115,116,117,118,119,120,121,122]⟩:ByteArray) x0 (IntKind.wrap .i64 (x0+1))
  M.pure Xx5
  ) (do
  let Xx7←slS (⟨#[48,48,48,49,48,50,48,51,48,52,48,53,48,54,48,55,48,56,48,57,49,48,49,49,49,50,49,51,49,52,49,53,49,54,49,55,49,56,49,57,50,48,50,49,50,50,50,51,50,52,50,53,50,54,50,55,50,56,50,57,51,48,51,49,51,50,51,51,51,52,51,53,51,54,51,55,51,56,51,57,52,48,52,49,52,50,52,51,52,52,52,53,52,54,52,55,52,56,52,57,53,48,53,49,53,50,53,51,53,52,53,53,53,54,53,55,53,56,53,57,54,48,54,49,54,50,54,51,54,52,54,53,54,54,54,55,54,56,54,57,55,48,55,49,55,50,55,51,55,52,55,53,55,54,55,55,55,56,55,57,56,48,56,49,56,50,56,51,56,52,56,53,56,54,56,55,56,56,56,57,57,48,57,49,57,50,57,51,57,52,57,53,57,54,57,55,57,56,57,57]⟩:ByteArray) (IntKind.wrap .i64 (x0 * 2)) (IntKind.wrap .i64 ((IntKind.wrap .i64 (x0 * 2))+2))
  M.pure Xx7
  )
theorem Yv (x0:Int):Ku Go.Proofs.Tryz.prog 231 #[.int .i64 x0] (fun (r:ByteArray)=>.string r) (UH x0) :=
 KQ [] [] [.S] [(0,.I .i64 x0)] .o Go.Proofs.Tryz.func231 rfl rfl ⟨rfl,trivial⟩ rfl (by kernel_rfl) (by kernel_rfl)
noncomputable def Yw:CalleeS Go.Proofs.Tryz.prog:=mkC YW YY [.I .i64] [.S] (fun (t:Int)=>UH t) (fun (t:Int)=>Yv t)
def JW (x0:Int):M (Int):=do
 M.pure (iShr .i64 (IntKind.wrap .i64 (x0 * 78913)) 18)
theorem Wf (x0:Int):Ku Go.Proofs.Tryz.prog 247 #[.int .i64 x0] (fun (r:Int)=>.int .i64 r) (JW x0) :=
 KQ [] [] [.I .i64] [(0,.I .i64 x0)] .o Go.Proofs.Tryz.func247 rfl rfl ⟨rfl,trivial⟩ rfl (by kernel_rfl) (by kernel_rfl)
noncomputable def Wg:CalleeS Go.Proofs.Tryz.prog:=mkC WA WG [.I .i64] [.I .i64] (fun (t:Int)=>JW t) (fun (t:Int)=>Wf t)
def U8 (Xx6:Int) (Xx7:Int):M (Int):=do
 let Xx9←ixS (⟨#[0,1,2,2,3,3,3,3,4,4,4,4,4,4,4,4,5,5,5,5,5,5,5,5,5,5,5,5,5,5,5,5,6,6,6,6,6,6,6,6,6,6,6,6,6,6,6,6,6,6,6,6,6,6,6,6,6,6,6,6,6,6,6,6,7,7,7,7,7,7,7,7,7,7,7,7,7,7,7,7,7,7,7,7,7,7,7,7,7,7,7,7,7,7,7,7,7,7,7,7,7,7,7,7,7,7,7,7,7,7,7,7,7,7,7,7,7,7,7,7,7,7,7,7,7,7,7,7,8,8,8,8,8,8,8,8,8,8,8,8,8,8,8,8,8,8,8,8,8,8,8,8,8,8,8,8,8,8,8,8,8,8,8,8,8,8,8,8,8,8,8,8,8,8,8,8,8,8,8,8,8,8,8,8,8,8,8,8,8,8,8,8,8,8,8,8,8,8,8,8,8,8,8,8,8,8,8,8,8,8,8,8,8,8,8,8,8,8,8,8,8,8,8,8,8,8,8,8,8,8,8,8,8,8,8,8,8,8,8,8,8,8,8,8,8,8,8,8,8,8,8,8,8,8,8,8]⟩:ByteArray) (IntKind.wrap .u8 Xx6)
 M.pure (IntKind.wrap .i64 (Xx7+(IntKind.wrap .i64 Xx9)))
def U9 (Xx4:Int) (Xx5:Int):M (Int):=do
 M.ite (decide (Xx4 ≥ 256)) (do
  U8 (iShr .u64 Xx4 8) (IntKind.wrap .i64 (Xx5+8))
  ) (do
  U8 Xx4 Xx5
  )
def VA (Xx2:Int) (Xx3:Int):M (Int):=do
 M.ite (decide (Xx2 ≥ 65536)) (do
  U9 (iShr .u64 Xx2 16) (IntKind.wrap .i64 (Xx3+16))
  ) (do
  U9 Xx2 Xx3
  )
def YG (x0:Int):M (Int):=do
 M.ite (decide (x0 ≥ 4294967296)) (do
  VA (iShr .u64 x0 32) 32
  ) (do
  VA x0 0
  )
theorem N9 (x0:Int):Ku Go.Proofs.Tryz.prog 248 #[.int .u64 x0] (fun (r:Int)=>.int .i64 r) (YG x0) :=
 KQ [] [] [.I .i64] [(0,.I .u64 x0)] (.q .o (.q .o (.j [(0,.I .u64),(2,.I .i64)] (fun (t:Int × Int)=>VA t.1 t.2) (.q .o (.j [(0,.I .u64),(2,.I .i64)] (fun (t:Int × Int)=>U9 t.1 t.2) (.q .o (.j [(0,.I .u64),(2,.I .i64)] (fun (t:Int × Int)=>U8 t.1 t.2) .o))))))) Go.Proofs.Tryz.func248 rfl rfl ⟨rfl,trivial⟩ rfl (by kernel_rfl) (by kernel_rfl)
noncomputable def qA:CalleeS Go.Proofs.Tryz.prog:=mkC NM NS [.I .u64] [.I .i64] (fun (t:Int)=>YG t) (fun (t:Int)=>N9 t)
def JX (x0:Bool):M (Int):=do
 M.ite x0 (do
  M.pure 1
  ) (do
  M.pure 0
  )
theorem Wh (x0:Bool):Ku Go.Proofs.Tryz.prog 249 #[.bool x0] (fun (r:Int)=>.int .i64 r) (JX x0) :=
 KQ [] [] [.I .i64] [(0,.B x0)] .o Go.Proofs.Tryz.func249 rfl rfl ⟨rfl,trivial⟩ rfl (by kernel_rfl) (by kernel_rfl)
noncomputable def Wi:CalleeS Go.Proofs.Tryz.prog:=mkC V9 WF [.B] [.I .i64] (fun (t:Bool)=>JX t) (fun (t:Bool)=>Wh t)
end Gx
