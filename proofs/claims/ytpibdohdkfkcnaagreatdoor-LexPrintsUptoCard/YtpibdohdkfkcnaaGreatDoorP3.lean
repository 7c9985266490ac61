/- Printed by program: Go functions as Lean programs, each tied to its code. No condition. -/
import Derived.Test.YtpibdohdkfkcnaaGreatDoorP0
import Derived.Test.YtpibdohdkfkcnaaGreatDoorP1
import Derived.Test.YtpibdohdkfkcnaaGreatDoorP2
import Derived.Test.YtpibdohdkfkcnaaGreatDoorProg
import Derived.KernelRfl
import Derived.Lib.AtoiErrMem
import Derived.Shelf.Small.Strs
import Derived.Shelf.Strconv.Itoa3
import Derived.Shelf.Strconv.ParseInt10All
import Derived.Shelf.Strings.Builder1
import Derived.Shelf.Strings.Count
import Derived.Shelf.Strings.Search1
import Derived.Shelf.Strings.Search2
import Derived.Shelf.Strings.SlTrimAscii
set_option linter.unusedVariables false
set_option linter.unusedSimpArgs false
namespace Gx
open Go
abbrev qK:Nat:=172
abbrev Gh:Nat:=173
abbrev KCV:Nat:=171
abbrev KAG:Nat:=209
abbrev qL:Nat:=210
abbrev VL:Nat:=211
abbrev WF:Nat:=235
abbrev JJ:Nat:=216
abbrev Wy:Nat:=262
abbrev Wa:Nat:=249
abbrev Vh:Nat:=233
abbrev WG:Nat:=234
abbrev Vi:Nat:=250
abbrev Wb:Nat:=247
abbrev Wc:Nat:=232
abbrev Y4:Nat:=231
abbrev Wd:Nat:=271
abbrev VM:Nat:=140
abbrev KDb:Nat:=22
abbrev KGG:Nat:=13
abbrev KDc:Nat:=25
abbrev KEe:Nat:=20
abbrev KCW:Nat:=179
abbrev KAl:Nat:=177
abbrev KCX:Nat:=54
abbrev KCY:Nat:=212
abbrev Uy:Nat:=92
abbrev NS:Nat:=93
abbrev KDd:Nat:=178
abbrev qM:Nat:=248
abbrev Yr:Nat:=251
abbrev Wz:Nat:=256
abbrev KDe:Nat:=253
abbrev KBZ:Nat:=258
abbrev KEf:Nat:=130
abbrev KEg:Nat:=260
abbrev Gi:Nat:=15
abbrev GE:Nat:=151
abbrev NT:Nat:=111
abbrev NU:Nat:=200
abbrev qN:Nat:=57
abbrev NV:Nat:=55
abbrev Gj:Nat:=112
abbrev qO:Nat:=58
abbrev NW:Nat:=34
abbrev GF:Nat:=101
abbrev UI:Nat:=71
abbrev Jy:Nat:=113
abbrev Gk:Nat:=23
abbrev Gl:Nat:=26
abbrev NX:Nat:=24
abbrev NY:Nat:=56
abbrev Zg:Nat:=175
abbrev UD:Nat:=165
abbrev VI:Nat:=257
abbrev UX:Nat:=205
abbrev Vw:Nat:=261
abbrev Gm:Nat:=188
abbrev NZ:Nat:=259
abbrev Gp:Nat:=267
abbrev Xb:Nat:=268
abbrev GG:Nat:=266
abbrev Xy:Nat:=265
abbrev qP:Nat:=263
abbrev Xc:Nat:=189
abbrev Y5:Nat:=61
abbrev W8:Nat:=59
abbrev WH:Nat:=60
abbrev JW:Nat:=102
abbrev Xd:Nat:=217
abbrev qQ:Nat:=174
abbrev Gq:Nat:=100
abbrev KAm:Nat:=132
abbrev KAn:Nat:=99
abbrev KBa:Nat:=153
abbrev Xv:Nat:=124
abbrev KDf:Nat:=51
abbrev KCZ:Nat:=53
abbrev KBb:Nat:=180
abbrev KDg:Nat:=52
abbrev KCa:Nat:=50
abbrev KDh:Nat:=201
abbrev KBc:Nat:=221
abbrev KBd:Nat:=131
abbrev W9:Nat:=213
abbrev Wr:Nat:=246
abbrev Ui:Nat:=227
abbrev YA:Nat:=98
abbrev KEh:Nat:=236
abbrev Vx:Nat:=252
abbrev zy:Nat:=23
abbrev KP:Nat:=29
abbrev KI:Nat:=54
abbrev KAo:Nat:=4
abbrev Vo:Nat:=3
abbrev Ki:Nat:=265
abbrev NK:Nat:=70
abbrev We:Nat:=68
abbrev Jp:Nat:=268
abbrev WI:Nat:=161
abbrev J5:Nat:=22
abbrev Na:Nat:=273
abbrev XI:Nat:=9
abbrev ZQ:Nat:=82
abbrev KU:Nat:=5
abbrev YW:Nat:=233
abbrev Zk:Nat:=229
theorem mo:Go.Proofs.Tryz.prog.follows .mixedOrders=true:=by kernel_rfl
theorem un22:Go.Proofs.Tryz.prog.underlying 22=some (.slice 29):=by kernel_rfl
theorem un3:Go.Proofs.Tryz.prog.underlying 3=some (.int .i64):=by kernel_rfl
theorem un44:Go.Proofs.Tryz.prog.underlying 44=some (.slice 5):=by kernel_rfl
theorem un5:Go.Proofs.Tryz.prog.underlying 5=some (.int .u8):=by kernel_rfl
theorem un52:Go.Proofs.Tryz.prog.underlying 52=some (.slice 54):=by kernel_rfl
theorem un9:Go.Proofs.Tryz.prog.underlying 9=some (.string):=by kernel_rfl
theorem zr22:((Go.Proofs.Tryz.prog.info? 22).bind (·.zero))=some (.slice none 0 0):=by kernel_rfl
theorem KMF:((Go.Proofs.Tryz.prog.info? 229).bind (·.zero))=some (.agg (#[.int .i64 0]:Array Value)):=by kernel_rfl
theorem zr23:((Go.Proofs.Tryz.prog.info? 23).bind (·.zero))=some (.int .i64 0):=by kernel_rfl
theorem zr29:((Go.Proofs.Tryz.prog.info? 29).bind (·.zero))=some (.agg (#[.int .i64 0,.string ByteArray.empty,.int .i64 0,.int .i64 0]:Array Value)):=by kernel_rfl
theorem zr3:((Go.Proofs.Tryz.prog.info? 3).bind (·.zero))=some (.int .i64 0):=by kernel_rfl
theorem zr5:((Go.Proofs.Tryz.prog.info? 5).bind (·.zero))=some (.int .u8 0):=by kernel_rfl
theorem zr54:((Go.Proofs.Tryz.prog.info? 54).bind (·.zero))=some (.agg (#[.int .i64 0,.int .i64 0,.string ByteArray.empty,.slice none 0 0]:Array Value)):=by kernel_rfl
theorem zr70:((Go.Proofs.Tryz.prog.info? 70).bind (·.zero))=some (.agg (#[.string ByteArray.empty,.int .i64 0]:Array Value)):=by kernel_rfl
theorem ag29:agB Go.Proofs.Tryz.prog 29 4=true:=by kernel_rfl
theorem ag54:agB Go.Proofs.Tryz.prog 54 4=true:=by kernel_rfl
theorem ap22:apB Go.Proofs.Tryz.prog 22 29 4 40 (#[.int .i64 0,.string ByteArray.empty,.int .i64 0,.int .i64 0]:Array Value):=⟨un22,GC (by kernel_rfl)⟩
theorem ap44:apB Go.Proofs.Tryz.prog 44 5 1 1 (#[.int .u8 0]:Array Value):=⟨un44,GC (by kernel_rfl)⟩
theorem ap52:apB Go.Proofs.Tryz.prog 52 54 4 56 (#[.int .i64 0,.int .i64 0,.string ByteArray.empty,.slice none 0 0]:Array Value):=⟨un52,GC (by kernel_rfl)⟩
theorem bd29:∀ w,(Instr.build 29 #[]).run Go.Proofs.Tryz.prog w=.ok (.agg (#[.int .i64 0,.string ByteArray.empty,.int .i64 0,.int .i64 0]:Array Value)) w:=fun w=>by kernel_rfl
theorem bd54:∀ w,(Instr.build 54 #[]).run Go.Proofs.Tryz.prog w=.ok (.agg (#[.int .i64 0,.int .i64 0,.string ByteArray.empty,.slice none 0 0]:Array Value)) w:=fun w=>by kernel_rfl
theorem qR:Callee? Go.Proofs.Tryz.prog 172:=KE Go.Proofs.Tryz.func172 (by kernel_rfl) rfl
theorem Gr:Callee? Go.Proofs.Tryz.prog 173:=KE Go.Proofs.Tryz.func173 (by kernel_rfl) rfl
theorem KCb:Callee? Go.Proofs.Tryz.prog 171:=KE Go.Proofs.Tryz.func171 (by kernel_rfl) rfl
theorem KAH:Callee? Go.Proofs.Tryz.prog 209:=KE Go.Proofs.Tryz.func209 (by kernel_rfl) rfl
theorem qS:Callee? Go.Proofs.Tryz.prog 210:=KE Go.Proofs.Tryz.func210 (by kernel_rfl) rfl
theorem VN:Callee? Go.Proofs.Tryz.prog 211:=KE Go.Proofs.Tryz.func211 (by kernel_rfl) rfl
theorem Wf:Callee? Go.Proofs.Tryz.prog 216:=KE Go.Proofs.Tryz.func216 (by kernel_rfl) rfl
theorem YB:Callee? Go.Proofs.Tryz.prog 262:=KE Go.Proofs.Tryz.func262 (by kernel_rfl) rfl
theorem Wg:Callee? Go.Proofs.Tryz.prog 249:=KE Go.Proofs.Tryz.func249 (by kernel_rfl) rfl
theorem Vj:Callee? Go.Proofs.Tryz.prog 233:=KE Go.Proofs.Tryz.func233 (by kernel_rfl) rfl
theorem WJ:Callee? Go.Proofs.Tryz.prog 234:=KE Go.Proofs.Tryz.func234 (by kernel_rfl) rfl
theorem Vk:Callee? Go.Proofs.Tryz.prog 250:=KE Go.Proofs.Tryz.func250 (by kernel_rfl) rfl
theorem Wh:Callee? Go.Proofs.Tryz.prog 247:=KE Go.Proofs.Tryz.func247 (by kernel_rfl) rfl
theorem Wi:Callee? Go.Proofs.Tryz.prog 232:=KE Go.Proofs.Tryz.func232 (by kernel_rfl) rfl
theorem Y6:Callee? Go.Proofs.Tryz.prog 231:=KE Go.Proofs.Tryz.func231 (by kernel_rfl) rfl
theorem Wj:Callee? Go.Proofs.Tryz.prog 271:=KE Go.Proofs.Tryz.func271 (by kernel_rfl) rfl
theorem VO:Callee? Go.Proofs.Tryz.prog 140:=KE Go.Proofs.Tryz.func140 (by kernel_rfl) rfl
theorem zz:Callee? Go.Proofs.Tryz.prog 22:=KE Go.Proofs.Tryz.func22 (by kernel_rfl) rfl
theorem KGH:Callee? Go.Proofs.Tryz.prog 13:=KE Go.Proofs.Tryz.func13 (by kernel_rfl) rfl
theorem KDi:Callee? Go.Proofs.Tryz.prog 25:=KE Go.Proofs.Tryz.func25 (by kernel_rfl) rfl
theorem KEi:Callee? Go.Proofs.Tryz.prog 20:=KE Go.Proofs.Tryz.func20 (by kernel_rfl) rfl
theorem KCc:Callee? Go.Proofs.Tryz.prog 179:=KE Go.Proofs.Tryz.func179 (by kernel_rfl) rfl
theorem KAp:Callee? Go.Proofs.Tryz.prog 177:=KE Go.Proofs.Tryz.func177 (by kernel_rfl) rfl
theorem KCd:Callee? Go.Proofs.Tryz.prog 54:=KE Go.Proofs.Tryz.func54 (by kernel_rfl) rfl
theorem KCe:Callee? Go.Proofs.Tryz.prog 212:=KE Go.Proofs.Tryz.func212 (by kernel_rfl) rfl
theorem KB4:Callee? Go.Proofs.Tryz.prog 126:=KE Go.Proofs.Tryz.func126 (by kernel_rfl) rfl
theorem qT:Callee? Go.Proofs.Tryz.prog 45:=KE Go.Proofs.Tryz.func45 (by kernel_rfl) rfl
theorem Gt:Callee? Go.Proofs.Tryz.prog 92:=KE Go.Proofs.Tryz.func92 (by kernel_rfl) rfl
theorem WK:Callee? Go.Proofs.Tryz.prog 46:=KE Go.Proofs.Tryz.func46 (by kernel_rfl) rfl
theorem Nb:Callee? Go.Proofs.Tryz.prog 93:=KE Go.Proofs.Tryz.func93 (by kernel_rfl) rfl
theorem KDj:Callee? Go.Proofs.Tryz.prog 178:=KE Go.Proofs.Tryz.func178 (by kernel_rfl) rfl
theorem qU:Callee? Go.Proofs.Tryz.prog 248:=KE Go.Proofs.Tryz.func248 (by kernel_rfl) rfl
theorem Ys:Callee? Go.Proofs.Tryz.prog 251:=KE Go.Proofs.Tryz.func251 (by kernel_rfl) rfl
theorem YC:Callee? Go.Proofs.Tryz.prog 256:=KE Go.Proofs.Tryz.func256 (by kernel_rfl) rfl
theorem KDk:Callee? Go.Proofs.Tryz.prog 253:=KE Go.Proofs.Tryz.func253 (by kernel_rfl) rfl
theorem KBe:Callee? Go.Proofs.Tryz.prog 258:=KE Go.Proofs.Tryz.func258 (by kernel_rfl) rfl
theorem KEj:Callee? Go.Proofs.Tryz.prog 130:=KE Go.Proofs.Tryz.func130 (by kernel_rfl) rfl
theorem KEk:Callee? Go.Proofs.Tryz.prog 260:=KE Go.Proofs.Tryz.func260 (by kernel_rfl) rfl
theorem Gu:Callee? Go.Proofs.Tryz.prog 15:=KE Go.Proofs.Tryz.func15 (by kernel_rfl) rfl
theorem GH:Callee? Go.Proofs.Tryz.prog 151:=KE Go.Proofs.Tryz.func151 (by kernel_rfl) rfl
theorem Nc:Callee? Go.Proofs.Tryz.prog 111:=KE Go.Proofs.Tryz.func111 (by kernel_rfl) rfl
theorem Nd:Callee? Go.Proofs.Tryz.prog 200:=KE Go.Proofs.Tryz.func200 (by kernel_rfl) rfl
theorem qV:Callee? Go.Proofs.Tryz.prog 57:=KE Go.Proofs.Tryz.func57 (by kernel_rfl) rfl
theorem Ng:Callee? Go.Proofs.Tryz.prog 55:=KE Go.Proofs.Tryz.func55 (by kernel_rfl) rfl
theorem Gv:Callee? Go.Proofs.Tryz.prog 112:=KE Go.Proofs.Tryz.func112 (by kernel_rfl) rfl
theorem qW:Callee? Go.Proofs.Tryz.prog 58:=KE Go.Proofs.Tryz.func58 (by kernel_rfl) rfl
theorem Nh:Callee? Go.Proofs.Tryz.prog 34:=KE Go.Proofs.Tryz.func34 (by kernel_rfl) rfl
theorem GI:Callee? Go.Proofs.Tryz.prog 101:=KE Go.Proofs.Tryz.func101 (by kernel_rfl) rfl
theorem YX:Callee? Go.Proofs.Tryz.prog 71:=KE Go.Proofs.Tryz.func71 (by kernel_rfl) rfl
theorem Gy:Callee? Go.Proofs.Tryz.prog 113:=KE Go.Proofs.Tryz.func113 (by kernel_rfl) rfl
theorem Gz:Callee? Go.Proofs.Tryz.prog 23:=KE Go.Proofs.Tryz.func23 (by kernel_rfl) rfl
theorem G0:Callee? Go.Proofs.Tryz.prog 26:=KE Go.Proofs.Tryz.func26 (by kernel_rfl) rfl
theorem Ni:Callee? Go.Proofs.Tryz.prog 24:=KE Go.Proofs.Tryz.func24 (by kernel_rfl) rfl
theorem Nj:Callee? Go.Proofs.Tryz.prog 56:=KE Go.Proofs.Tryz.func56 (by kernel_rfl) rfl
theorem Zh:Callee? Go.Proofs.Tryz.prog 175:=KE Go.Proofs.Tryz.func175 (by kernel_rfl) rfl
theorem UE:Callee? Go.Proofs.Tryz.prog 165:=KE Go.Proofs.Tryz.func165 (by kernel_rfl) rfl
theorem VJ:Callee? Go.Proofs.Tryz.prog 257:=KE Go.Proofs.Tryz.func257 (by kernel_rfl) rfl
theorem UY:Callee? Go.Proofs.Tryz.prog 205:=KE Go.Proofs.Tryz.func205 (by kernel_rfl) rfl
theorem Vy:Callee? Go.Proofs.Tryz.prog 261:=KE Go.Proofs.Tryz.func261 (by kernel_rfl) rfl
theorem G8:Callee? Go.Proofs.Tryz.prog 188:=KE Go.Proofs.Tryz.func188 (by kernel_rfl) rfl
theorem Nk:Callee? Go.Proofs.Tryz.prog 259:=KE Go.Proofs.Tryz.func259 (by kernel_rfl) rfl
theorem G9:Callee? Go.Proofs.Tryz.prog 267:=KE Go.Proofs.Tryz.func267 (by kernel_rfl) rfl
theorem Xe:Callee? Go.Proofs.Tryz.prog 268:=KE Go.Proofs.Tryz.func268 (by kernel_rfl) rfl
theorem GJ:Callee? Go.Proofs.Tryz.prog 266:=KE Go.Proofs.Tryz.func266 (by kernel_rfl) rfl
theorem Xz:Callee? Go.Proofs.Tryz.prog 265:=KE Go.Proofs.Tryz.func265 (by kernel_rfl) rfl
theorem qX:Callee? Go.Proofs.Tryz.prog 263:=KE Go.Proofs.Tryz.func263 (by kernel_rfl) rfl
theorem Xf:Callee? Go.Proofs.Tryz.prog 189:=KE Go.Proofs.Tryz.func189 (by kernel_rfl) rfl
theorem Y7:Callee? Go.Proofs.Tryz.prog 61:=KE Go.Proofs.Tryz.func61 (by kernel_rfl) rfl
theorem YD:Callee? Go.Proofs.Tryz.prog 59:=KE Go.Proofs.Tryz.func59 (by kernel_rfl) rfl
theorem WL:Callee? Go.Proofs.Tryz.prog 60:=KE Go.Proofs.Tryz.func60 (by kernel_rfl) rfl
theorem JX:Callee? Go.Proofs.Tryz.prog 102:=KE Go.Proofs.Tryz.func102 (by kernel_rfl) rfl
theorem Xg:Callee? Go.Proofs.Tryz.prog 217:=KE Go.Proofs.Tryz.func217 (by kernel_rfl) rfl
theorem qY:Callee? Go.Proofs.Tryz.prog 174:=KE Go.Proofs.Tryz.func174 (by kernel_rfl) rfl
theorem Uz:Callee? Go.Proofs.Tryz.prog 100:=KE Go.Proofs.Tryz.func100 (by kernel_rfl) rfl
theorem KAq:Callee? Go.Proofs.Tryz.prog 132:=KE Go.Proofs.Tryz.func132 (by kernel_rfl) rfl
theorem KAr:Callee? Go.Proofs.Tryz.prog 99:=KE Go.Proofs.Tryz.func99 (by kernel_rfl) rfl
theorem qZ:Callee? Go.Proofs.Tryz.prog 152:=KE Go.Proofs.Tryz.func152 (by kernel_rfl) rfl
theorem KBf:Callee? Go.Proofs.Tryz.prog 153:=KE Go.Proofs.Tryz.func153 (by kernel_rfl) rfl
theorem Xw:Callee? Go.Proofs.Tryz.prog 124:=KE Go.Proofs.Tryz.func124 (by kernel_rfl) rfl
theorem z6:Callee? Go.Proofs.Tryz.prog 51:=KE Go.Proofs.Tryz.func51 (by kernel_rfl) rfl
theorem KCf:Callee? Go.Proofs.Tryz.prog 53:=KE Go.Proofs.Tryz.func53 (by kernel_rfl) rfl
theorem KBg:Callee? Go.Proofs.Tryz.prog 180:=KE Go.Proofs.Tryz.func180 (by kernel_rfl) rfl
theorem z7:Callee? Go.Proofs.Tryz.prog 52:=KE Go.Proofs.Tryz.func52 (by kernel_rfl) rfl
theorem KCg:Callee? Go.Proofs.Tryz.prog 50:=KE Go.Proofs.Tryz.func50 (by kernel_rfl) rfl
theorem Y8:Callee? Go.Proofs.Tryz.prog 241:=KE Go.Proofs.Tryz.func241 (by kernel_rfl) rfl
theorem KDl:Callee? Go.Proofs.Tryz.prog 201:=KE Go.Proofs.Tryz.func201 (by kernel_rfl) rfl
theorem KBh:Callee? Go.Proofs.Tryz.prog 221:=KE Go.Proofs.Tryz.func221 (by kernel_rfl) rfl
theorem KBi:Callee? Go.Proofs.Tryz.prog 131:=KE Go.Proofs.Tryz.func131 (by kernel_rfl) rfl
theorem KCh:Callee? Go.Proofs.Tryz.prog 213:=KE Go.Proofs.Tryz.func213 (by kernel_rfl) rfl
theorem VP:Callee? Go.Proofs.Tryz.prog 245:=KE Go.Proofs.Tryz.func245 (by kernel_rfl) rfl
theorem Xh:Callee? Go.Proofs.Tryz.prog 254:=KE Go.Proofs.Tryz.func254 (by kernel_rfl) rfl
theorem Ku:Callee? Go.Proofs.Tryz.prog 228:=KE Go.Proofs.Tryz.func228 (by kernel_rfl) rfl
theorem Kh:Callee? Go.Proofs.Tryz.prog 240:=KE Go.Proofs.Tryz.func240 (by kernel_rfl) rfl
theorem Ws:Callee? Go.Proofs.Tryz.prog 246:=KE Go.Proofs.Tryz.func246 (by kernel_rfl) rfl
theorem ZF:Callee? Go.Proofs.Tryz.prog 244:=KE Go.Proofs.Tryz.func244 (by kernel_rfl) rfl
theorem Vp:Callee? Go.Proofs.Tryz.prog 242:=KE Go.Proofs.Tryz.func242 (by kernel_rfl) rfl
theorem Nl:Callee? Go.Proofs.Tryz.prog 243:=KE Go.Proofs.Tryz.func243 (by kernel_rfl) rfl
theorem Uj:Callee? Go.Proofs.Tryz.prog 227:=KE Go.Proofs.Tryz.func227 (by kernel_rfl) rfl
theorem qa:Callee? Go.Proofs.Tryz.prog 98:=KE Go.Proofs.Tryz.func98 (by kernel_rfl) rfl
theorem Wk:KBT Go.Proofs.Tryz.prog 233 0=some 0:=by kernel_rfl
theorem ZI:KBT Go.Proofs.Tryz.prog 233 1=some 1:=by kernel_rfl
theorem KJr:KBT Go.Proofs.Tryz.prog 29 3=some 3:=by kernel_rfl
theorem KMG:KBT Go.Proofs.Tryz.prog 70 0=some 0:=by kernel_rfl
theorem KDm:KBT Go.Proofs.Tryz.prog 70 1=some 1:=by kernel_rfl
theorem KNG:niB Go.Proofs.Tryz.prog 229=true:=by kernel_rfl
theorem KNH:Ww Go.Proofs.Tryz.prog 229=some [(0,1)]:=by kernel_rfl
theorem pl54:Ww Go.Proofs.Tryz.prog 54=some [(0,1),(1,1),(2,1),(3,1)]:=by kernel_rfl
theorem pl70:Ww Go.Proofs.Tryz.prog 70=some [(0,1),(1,1)]:=by kernel_rfl
theorem sc22:scB Go.Proofs.Tryz.prog 22=true:=by kernel_rfl
theorem sc23:scB Go.Proofs.Tryz.prog 23=true:=by kernel_rfl
theorem sc3:scB Go.Proofs.Tryz.prog 3=true:=by kernel_rfl
theorem sc9:scB Go.Proofs.Tryz.prog 9=true:=by kernel_rfl
theorem sz22:szB Go.Proofs.Tryz.prog 22 1=true:=by kernel_rfl
theorem sz23:szB Go.Proofs.Tryz.prog 23 1=true:=by kernel_rfl
theorem sz29:szB Go.Proofs.Tryz.prog 29 4=true:=by kernel_rfl
theorem sz3:szB Go.Proofs.Tryz.prog 3 1=true:=by kernel_rfl
theorem sz5:szB Go.Proofs.Tryz.prog 5 1=true:=by kernel_rfl
theorem sz54:szB Go.Proofs.Tryz.prog 54 4=true:=by kernel_rfl
end Gx
namespace Gx
open Go Go.Proofs Go.Shelf Go.Sort Go.RowKit
set_option linter.unusedVariables false
set_option linter.unusedSimpArgs false
set_option maxRecDepth 100000
def KAs:Go.Shelf.Ren:=⟨fun | 119=>236 | 120=>220 | 129=>248 | 137=>100 | 138=>207 | 143=>208 | 151=>192 | 152=>219 | 160=>99 | 195=>222 | 197=>191 | 213=>211 | 217=>140 | 218=>223 | 219=>224 | 224=>237 | 225=>238 | 227=>135 | 228=>190 | 231=>133 | 232=>134 | 233=>136 | 234=>137 | 235=>138 | 236=>139 | 240=>102 | 246=>216 | 247=>262 | 260=>218 | 265=>225 | 266=>194 | 267=>239 | 271=>193 | 276=>141 | 283=>231 | 284=>232 | 285=>233 | 286=>234 | 287=>264 | 314=>252 | 317=>247 | 318=>249 | 319=>250 | 320=>251 | 321=>269 | 322=>270 | 337=>255 | 338=>256 | n=>n,fun | 0=>0 | 2=>2 | 3=>3 | 4=>4 | 5=>5 | 9=>9 | 20=>20 | 21=>21 | 37=>44 | 46=>210 | 51=>251 | 53=>216 | 70=>80 | 72=>82 | 75=>84 | 80=>88 | 105=>211 | 116=>166 | 117=>167 | 119=>242 | 124=>170 | 138=>244 | 139=>245 | 146=>254 | 164=>171 | 167=>265 | 171=>236 | 173=>239 | 175=>266 | 212=>250 | 213=>252 | 232=>261 | 233=>262 | n=>n,fun | 1=>0 | 3=>1 | 4=>2 | 17=>3 | 18=>4 | 19=>5 | n=>n⟩
theorem KCi:Lays.n213 Go.Proofs.Tryz.prog KAs:={
 mixed:=by kernel_rfl
 f213:=Tryz.func211.trans (congrArg some (by kernel_rfl))
 f265:=Tryz.func225.trans (congrArg some (by kernel_rfl))
 t3:=Tryz.underlying3
 a3:=Tryz.isAgg3
 z3:=Tryz.sizeOf3
 v3:=Tryz.zeroValue3
 t9:=Tryz.underlying9
 a9:=Tryz.isAgg9
 z9:=Tryz.sizeOf9
 v9:=Tryz.zeroValue9 }
theorem KCj:Lays.n217 Go.Proofs.Tryz.prog KAs:={
 mixed:=by kernel_rfl
 f217:=Tryz.func140.trans (congrArg some (by kernel_rfl))
 f266:=Tryz.func194.trans (congrArg some (by kernel_rfl))
 t3:=Tryz.underlying3
 a3:=Tryz.isAgg3
 z3:=Tryz.sizeOf3
 v3:=Tryz.zeroValue3
 t5:=Tryz.underlying5
 a5:=Tryz.isAgg5
 z5:=Tryz.sizeOf5
 v5:=Tryz.zeroValue5
 t9:=Tryz.underlying9
 a9:=Tryz.isAgg9
 z9:=Tryz.sizeOf9
 v9:=Tryz.zeroValue9 }
theorem KBj:LaysC.n247 Go.Proofs.Tryz.prog KAs:={
 mixed:=by kernel_rfl
 f247:=Tryz.func262.trans (congrArg some (by kernel_rfl))
 f287:=Tryz.func264.trans (congrArg some (by kernel_rfl))
 f321:=Tryz.func269.trans (congrArg some (by kernel_rfl))
 f322:=Tryz.func270.trans (congrArg some (by kernel_rfl))
 t0:=Tryz.underlying0
 a0:=Tryz.isAgg0
 z0:=Tryz.sizeOf0
 v0:=Tryz.zeroValue0
 t2:=Tryz.underlying2
 a2:=Tryz.isAgg2
 z2:=Tryz.sizeOf2
 v2:=Tryz.zeroValue2
 t3:=Tryz.underlying3
 a3:=Tryz.isAgg3
 z3:=Tryz.sizeOf3
 v3:=Tryz.zeroValue3
 t4:=Tryz.underlying4
 a4:=Tryz.isAgg4
 z4:=Tryz.sizeOf4
 v4:=Tryz.zeroValue4
 t5:=Tryz.underlying5
 a5:=Tryz.isAgg5
 z5:=Tryz.sizeOf5
 v5:=Tryz.zeroValue5
 t9:=Tryz.underlying9
 a9:=Tryz.isAgg9
 z9:=Tryz.sizeOf9
 v9:=Tryz.zeroValue9
 t21:=Tryz.underlying21
 a21:=Tryz.isAgg21
 z21:=Tryz.sizeOf21
 v21:=Tryz.zeroValue21
 t37:=Tryz.underlying44
 a37:=Tryz.isAgg44
 z37:=Tryz.sizeOf44
 v37:=Tryz.zeroValue44
 t46:=Tryz.underlying210
 a46:=Tryz.isAgg210
 z46:=Tryz.sizeOf210
 v46:=Tryz.zeroValue210
 t53:=Tryz.underlying216
 a53:=Tryz.isAgg216
 z53:=Tryz.sizeOf216
 v53:=Tryz.zeroValue216
 t75:=Tryz.underlying84
 a75:=Tryz.isAgg84
 z75:=Tryz.sizeOf84
 v75:=Tryz.zeroValue84
 t167:=Tryz.underlying265
 a167:=Tryz.isAgg265
 z167:=Tryz.sizeOf265
 v167:=Tryz.zeroValue265
 t175:=Tryz.underlying266
 a175:=Tryz.isAgg266
 z175:=Tryz.sizeOf266
 v175:=Tryz.zeroValue266
 t80:=Tryz.underlying88
 a80:=Tryz.isAgg88
 z80:=Tryz.sizeOf88
 v80:=Tryz.zeroValue88
 i0:=by kernel_rfl
 i2:=by kernel_rfl
 i3:=by kernel_rfl
 i4:=by kernel_rfl
 i5:=by kernel_rfl
 i9:=by kernel_rfl
 i21:=by kernel_rfl
 i37:=by kernel_rfl
 i46:=by kernel_rfl
 i53:=by kernel_rfl
 i75:=by kernel_rfl
 i80:=by kernel_rfl
 i167:=by kernel_rfl
 i175:=by kernel_rfl
 c0:=by kernel_rfl
 c2:=by kernel_rfl
 c3:=by kernel_rfl
 c4:=by kernel_rfl
 c5:=by kernel_rfl
 c9:=by kernel_rfl
 c21:=by kernel_rfl
 c37:=by kernel_rfl
 c46:=by kernel_rfl
 c53:=by kernel_rfl
 c75:=by kernel_rfl
 c80:=by kernel_rfl
 c167:=by kernel_rfl
 c175:=by kernel_rfl }
theorem qe:Lays.n240 Go.Proofs.Tryz.prog KAs:={
 mixed:=by kernel_rfl
 f240:=Tryz.func102.trans (congrArg some (by kernel_rfl))
 f276:=Tryz.func141.trans (congrArg some (by kernel_rfl))
 t0:=Tryz.underlying0
 a0:=Tryz.isAgg0
 z0:=Tryz.sizeOf0
 v0:=Tryz.zeroValue0
 t4:=Tryz.underlying4
 a4:=Tryz.isAgg4
 z4:=Tryz.sizeOf4
 v4:=Tryz.zeroValue4
 t9:=Tryz.underlying9
 a9:=Tryz.isAgg9
 z9:=Tryz.sizeOf9
 v9:=Tryz.zeroValue9
 t20:=Tryz.underlying20
 a20:=Tryz.isAgg20
 z20:=Tryz.sizeOf20
 v20:=Tryz.zeroValue20
 t70:=Tryz.underlying80
 a70:=Tryz.isAgg80
 z70:=Tryz.sizeOf80
 v70:=Tryz.zeroValue80
 t72:=Tryz.underlying82
 a72:=Tryz.isAgg82
 z72:=Tryz.sizeOf82
 v72:=Tryz.zeroValue82
 t164:=Tryz.underlying171
 a164:=Tryz.isAgg171
 z164:=Tryz.sizeOf171
 v164:=Tryz.zeroValue171 }
theorem KBk:LaysM.n246 Go.Proofs.Tryz.prog KAs:={
 mixed:=by kernel_rfl
 f129:=Tryz.func248.trans (congrArg some (by kernel_rfl))
 f246:=Tryz.func216.trans (congrArg some (by kernel_rfl))
 f283:=Tryz.func231.trans (congrArg some (by kernel_rfl))
 f284:=Tryz.func232.trans (congrArg some (by kernel_rfl))
 f285:=Tryz.func233.trans (congrArg some (by kernel_rfl))
 f286:=Tryz.func234.trans (congrArg some (by kernel_rfl))
 f317:=Tryz.func247.trans (congrArg some (by kernel_rfl))
 f318:=Tryz.func249.trans (congrArg some (by kernel_rfl))
 f319:=Tryz.func250.trans (congrArg some (by kernel_rfl))
 f320:=Tryz.func251.trans (congrArg some (by kernel_rfl))
 f337:=Tryz.func255.trans (congrArg some (by kernel_rfl))
 f338:=Tryz.func256.trans (congrArg some (by kernel_rfl))
 t0:=Tryz.underlying0
 a0:=Tryz.isAgg0
 z0:=Tryz.sizeOf0
 v0:=Tryz.zeroValue0
 t2:=Tryz.underlying2
 a2:=Tryz.isAgg2
 z2:=Tryz.sizeOf2
 v2:=Tryz.zeroValue2
 t3:=Tryz.underlying3
 a3:=Tryz.isAgg3
 z3:=Tryz.sizeOf3
 v3:=Tryz.zeroValue3
 t4:=Tryz.underlying4
 a4:=Tryz.isAgg4
 z4:=Tryz.sizeOf4
 v4:=Tryz.zeroValue4
 t5:=Tryz.underlying5
 a5:=Tryz.isAgg5
 z5:=Tryz.sizeOf5
 v5:=Tryz.zeroValue5
 t9:=Tryz.underlying9
 a9:=Tryz.isAgg9
 z9:=Tryz.sizeOf9
 v9:=Tryz.zeroValue9
 t20:=Tryz.underlying20
 a20:=Tryz.isAgg20
 z20:=Tryz.sizeOf20
 v20:=Tryz.zeroValue20
 t37:=Tryz.underlying44
 a37:=Tryz.isAgg44
 z37:=Tryz.sizeOf44
 v37:=Tryz.zeroValue44
 t46:=Tryz.underlying210
 a46:=Tryz.isAgg210
 z46:=Tryz.sizeOf210
 v46:=Tryz.zeroValue210
 t51:=Tryz.underlying251
 a51:=Tryz.isAgg251
 z51:=Tryz.sizeOf251
 v51:=Tryz.zeroValue251
 t53:=Tryz.underlying216
 a53:=Tryz.isAgg216
 z53:=Tryz.sizeOf216
 v53:=Tryz.zeroValue216
 t171:=Tryz.underlying236
 a171:=Tryz.isAgg236
 z171:=Tryz.sizeOf236
 v171:=Tryz.zeroValue236
 t173:=Tryz.underlying239
 a173:=Tryz.isAgg239
 z173:=Tryz.sizeOf239
 v173:=Tryz.zeroValue239
 t212:=Tryz.underlying250
 a212:=Tryz.isAgg250
 z212:=Tryz.sizeOf250
 v212:=Tryz.zeroValue250
 t213:=Tryz.underlying252
 a213:=Tryz.isAgg252
 z213:=Tryz.sizeOf252
 t232:=Tryz.underlying261
 a232:=Tryz.isAgg261
 z232:=Tryz.sizeOf261
 v232:=Tryz.zeroValue261
 t233:=Tryz.underlying262
 a233:=Tryz.isAgg262
 z233:=Tryz.sizeOf262
 v233:=Tryz.zeroValue262
 g17:=by kernel_rfl
 g18:=by kernel_rfl
 g19:=by kernel_rfl
 i0:=by kernel_rfl
 i2:=by kernel_rfl
 i3:=by kernel_rfl
 i4:=by kernel_rfl
 i5:=by kernel_rfl
 i9:=by kernel_rfl
 i20:=by kernel_rfl
 i37:=by kernel_rfl
 i46:=by kernel_rfl
 i51:=by kernel_rfl
 i53:=by kernel_rfl
 i171:=by kernel_rfl
 i173:=by kernel_rfl
 i212:=by kernel_rfl
 i232:=by kernel_rfl
 i233:=by kernel_rfl
 m17:=by kernel_rfl
 m18:=by kernel_rfl
 m19:=by kernel_rfl }
theorem KCk:Lays.n160 Go.Proofs.Tryz.prog KAs:={
 mixed:=by kernel_rfl
 f119:=Tryz.func236.trans (congrArg some (by kernel_rfl))
 f120:=Tryz.func220.trans (congrArg some (by kernel_rfl))
 f137:=Tryz.func100.trans (congrArg some (by kernel_rfl))
 f151:=Tryz.func192.trans (congrArg some (by kernel_rfl))
 f152:=Tryz.func219.trans (congrArg some (by kernel_rfl))
 f160:=Tryz.func99.trans (congrArg some (by kernel_rfl))
 f197:=Tryz.func191.trans (congrArg some (by kernel_rfl))
 f217:=Tryz.func140.trans (congrArg some (by kernel_rfl))
 f224:=Tryz.func237.trans (congrArg some (by kernel_rfl))
 f225:=Tryz.func238.trans (congrArg some (by kernel_rfl))
 f227:=Tryz.func135.trans (congrArg some (by kernel_rfl))
 f228:=Tryz.func190.trans (congrArg some (by kernel_rfl))
 f231:=Tryz.func133.trans (congrArg some (by kernel_rfl))
 f232:=Tryz.func134.trans (congrArg some (by kernel_rfl))
 f233:=Tryz.func136.trans (congrArg some (by kernel_rfl))
 f234:=Tryz.func137.trans (congrArg some (by kernel_rfl))
 f235:=Tryz.func138.trans (congrArg some (by kernel_rfl))
 f236:=Tryz.func139.trans (congrArg some (by kernel_rfl))
 f260:=Tryz.func218.trans (congrArg some (by kernel_rfl))
 f266:=Tryz.func194.trans (congrArg some (by kernel_rfl))
 f271:=Tryz.func193.trans (congrArg some (by kernel_rfl))
 t0:=Tryz.underlying0
 a0:=Tryz.isAgg0
 z0:=Tryz.sizeOf0
 v0:=Tryz.zeroValue0
 t3:=Tryz.underlying3
 a3:=Tryz.isAgg3
 z3:=Tryz.sizeOf3
 v3:=Tryz.zeroValue3
 t4:=Tryz.underlying4
 a4:=Tryz.isAgg4
 z4:=Tryz.sizeOf4
 v4:=Tryz.zeroValue4
 t5:=Tryz.underlying5
 a5:=Tryz.isAgg5
 z5:=Tryz.sizeOf5
 v5:=Tryz.zeroValue5
 t9:=Tryz.underlying9
 a9:=Tryz.isAgg9
 z9:=Tryz.sizeOf9
 v9:=Tryz.zeroValue9
 t21:=Tryz.underlying21
 a21:=Tryz.isAgg21
 z21:=Tryz.sizeOf21
 v21:=Tryz.zeroValue21
 t46:=Tryz.underlying210
 a46:=Tryz.isAgg210
 z46:=Tryz.sizeOf210
 v46:=Tryz.zeroValue210
 t105:=Tryz.underlying211
 a105:=Tryz.isAgg211
 z105:=Tryz.sizeOf211
 v105:=Tryz.zeroValue211
 t116:=Tryz.underlying166
 a116:=Tryz.isAgg166
 z116:=Tryz.sizeOf166
 t117:=Tryz.underlying167
 a117:=Tryz.isAgg167
 z117:=Tryz.sizeOf167
 v117:=Tryz.zeroValue167
 t119:=Tryz.underlying242
 a119:=Tryz.isAgg242
 z119:=Tryz.sizeOf242
 t124:=Tryz.underlying170
 a124:=Tryz.isAgg170
 z124:=Tryz.sizeOf170
 v124:=Tryz.zeroValue170
 t138:=Tryz.underlying244
 a138:=Tryz.isAgg244
 z138:=Tryz.sizeOf244
 v138:=Tryz.zeroValue244
 t139:=Tryz.underlying245
 a139:=Tryz.isAgg245
 z139:=Tryz.sizeOf245
 v139:=Tryz.zeroValue245
 g3:=by kernel_rfl
 g4:=by kernel_rfl }
def ZR (x0 x1:ByteArray):M Int:=M.pure (Lib.compareBytes x0.data.toList x1.data.toList)
theorem Vm (x0 x1:ByteArray):Kn Go.Proofs.Tryz.prog 211 #[.string x0,.string x1] (fun (r:Int)=>.int .i64 r) (ZR x0 x1):=by
 intro w Q H
 refine (Any.bytealg_CompareString KCi x0 x1 w).mono ?_
 rintro e w' ⟨rfl,rfl⟩
 exact ⟨_,rfl,H,Rest.refl _⟩
def ZA (x0:ByteArray) (x1:Int):M Int:=M.pure (Lib.indexByte x0.data.toList x1.toNat.toUInt8)
theorem Vn (x0:ByteArray) (x1:Int):Kn Go.Proofs.Tryz.prog 140 #[.string x0,.int .u8 x1] (fun (r:Int)=>.int .i64 r) (ZA x0 x1):=by
 intro w Q H
 refine (Any.stringslite_IndexByte KCj x0 x1 w).mono ?_
 rintro e w' ⟨rfl,rfl⟩
 exact ⟨_,rfl,H,Rest.refl _⟩
def Jw (x0:ByteArray) (x1:Int) (x2:Int):M (Int × Value) :=
 ⟨fun h Q=>x1=10∧x2=64∧x0.size≤9223372036854775806∧∀ h':Heap,h.size≤h'.size→(∀ i,i < h.size→h'[i]?=h[i]?)→(match Lib.parseIntB 64 x0.data.toList with | .ok v=>Q (v,.nilIface) h' | .range=>Q (Lib.intSat 64 x0.data.toList,.iface 265 (.int .i64 1)) h' | _=>Q (0,.iface 265 (.int .i64 2)) h'),
  fun hq ⟨h0,h1,h2,h3⟩=>⟨h0,h1,h2,fun h' a b=>by have h5:=h3 h' a b; revert h5; cases Lib.parseIntB 64 x0.data.toList <;> exact fun h5=>hq _ _ h5⟩⟩
theorem YY (x0:ByteArray) (x1:Int) (x2:Int):Kn Go.Proofs.Tryz.prog 262 #[.string x0,.int .i64 x1,.int .i64 x2] (fun (r:Int × Value)=>.tuple #[.int .i64 r.1,r.2]) (Jw x0 x1 x2):=by
 intro w Q ⟨h0,h1,h2,h4⟩
 subst h0
 subst h1
 refine (Any.internal_strconv_ParseInt_10_all64 KBj x0 h2 w).mono ?_
 rintro e w' ⟨rfl,hw⟩
 have hb:w.heap.size≤w'.heap.size∧(∀ i,i < w.heap.size→w'.heap[i]?=w.heap[i]?)∧Rest w w':=by
  rcases hw with rfl | ⟨t,rfl⟩
  ·exact ⟨Nat.le_refl _,fun _ _=>rfl,Rest.refl _⟩
  ·have hb:=Lib.bytesWorld_below w (5) t
   exact ⟨hb.size,hb.block,⟨hb.os,hb.output,hb.tape,Nat.le_succ w.drawn⟩⟩
 obtain ⟨b1,b2,b3⟩:=hb
 have h5:=h4 _ b1 b2
 cases hp:Lib.parseIntB 64 x0.data.toList <;> (rw [hp] at h5; exact ⟨_,rfl,h5,b3⟩)
def U9 (x0:ByteArray) (x1:ByteArray):M (Option Addr):=M.fail
theorem GK (x0:ByteArray) (x1:ByteArray):Kn Go.Proofs.Tryz.prog 265 #[.string x0,.string x1] (fun (r:Option Addr)=>.pointer r) (U9 x0 x1):=fun w Q H=>H.elim
def Vz (x0:ByteArray) (x1:ByteArray) (x2:Int):M (Option Addr):=M.fail
theorem Nm (x0:ByteArray) (x1:ByteArray) (x2:Int):Kn Go.Proofs.Tryz.prog 267 #[.string x0,.string x1,.int .i64 x2] (fun (r:Option Addr)=>.pointer r) (Vz x0 x1 x2):=fun w Q H=>H.elim
def U0 (x0:ByteArray) (x1:ByteArray) (x2:Int):M (Option Addr):=M.fail
theorem X1 (x0:ByteArray) (x1:ByteArray) (x2:Int):Kn Go.Proofs.Tryz.prog 268 #[.string x0,.string x1,.int .i64 x2] (fun (r:Option Addr)=>.pointer r) (U0 x0 x1 x2):=fun w Q H=>H.elim
theorem KHM:Builder.X72 Go.Proofs.Tryz.prog KAs:={ sizeBuilder:=by kernel_rfl,liesBuilder:=by kernel_rfl }
def Kt (x0:Option Addr):M Unit :=
 ⟨fun h Q=>∃ b p v,x0=some ⟨b,0,none⟩∧h[b]?=some (.cells #[p,v] 82 (0,0))∧((p=.pointer (some ⟨b,0,none⟩)∧Q () h)∨(p=.pointer none∧Q () (hset h ⟨b,0,none⟩ (.pointer (some ⟨b,0,none⟩))))),
  fun hq ⟨b,p,v,h1,h2,h3⟩=>⟨b,p,v,h1,h2,h3.imp (fun ⟨a,c⟩=>⟨a,hq _ _ c⟩) (fun ⟨a,c⟩=>⟨a,hq _ _ c⟩)⟩⟩
theorem JZ (x0:Option Addr):Kn Go.Proofs.Tryz.prog 102 #[.pointer x0] (fun (r:Unit)=>.tuple #[]) (Kt x0):=by
 intro w Q ⟨b,p,v,h1,h2,h3⟩
 subst h1
 have hc:w.cell? ⟨b,0,none⟩=some p:=by rw [KAW]; simp [KO,h2]
 rcases h3 with ⟨rfl,hq⟩ | ⟨rfl,hq⟩
 ·refine (Any.Builder_copyCheck_used qe KHM b w hc).mono ?_
  rintro e w' ⟨rfl,rfl⟩
  exact ⟨(),rfl,hq,Rest.refl _⟩
 ·refine (Any.Builder_copyCheck_fresh qe KHM b w hc (by simp [World.shape?,h2]; rfl) (by simp [World.frozen?,h2])).mono ?_
  rintro e w' ⟨rfl,rfl⟩
  exact ⟨(),rfl,hq,⟨rfl,rfl,rfl,Nat.le_refl _⟩⟩
def GL (h:Heap):Prop:=∃ fz ty,h[3]?=some (.cells (Lib.pow10Tab.map fun z=>Value.int .u64 z).toArray ty fz)
def KAt (x0:Int):M ByteArray :=
 ⟨fun h Q=>-9223372036854775808≤x0∧x0≤9223372036854775807∧GL h∧∀ h':Heap,h.size≤h'.size→(∀ i,i < h.size→h'[i]?=h[i]?)→Q ⟨(Lib.itoa x0).toArray⟩ h',
  fun hq ⟨h2,h3,h4,h5⟩=>⟨h2,h3,h4,fun h' a b=>hq _ _ (h5 h' a b)⟩⟩
theorem zS (x0:Int):Kn Go.Proofs.Tryz.prog 216 #[.int .i64 x0,.int .i64 10] (fun (r:ByteArray)=>.string r) (KAt x0):=by
 intro w Q ⟨h2,h3,⟨fz,ty,h4⟩,h5⟩
 refine (Any.internal_strconv_FormatInt_10 KBk x0 h2 h3 w ?_).mono ?_
 ·show w.var? Go.Proofs.Tryz.prog _=_
  have hg:Go.Proofs.Tryz.prog.globalNamed "internal/strconv.uint64pow10"=some 3:=by kernel_rfl
  simp only [World.var?,hg,Option.bind_some,h4]
 ·rintro e w' ⟨rfl,k,os,rfl⟩
  refine ⟨_,rfl,h5 _ ?_ ?_,⟨rfl,rfl,rfl,Nat.le_add_right _ _⟩⟩
  ·show w.heap.size≤(w.heap++os).size
   simp
  ·intro i hi
   show (w.heap++os)[i]?=_
   rw [Array.getElem?_append_left hi]
def KAI (h:Heap):Prop:=∃ cs ty fz,h[5]?=some (.cells cs ty fz)∧cs[15]?=some (.int .u8 4)
def VG (x0 x1:ByteArray):M ByteArray :=
 ⟨fun h Q=>2≤x1.size∧x1.size < 4294967281∧0 < x0.size∧x0.size≤9223372036854775807∧(∀ (j:Nat) b,x1.data.toList[j]?=some b→b.toNat < 128)∧∀ h':Heap,h.size≤h'.size→(∀ i,i < h.size→h'[i]?=h[i]?)→Q ⟨(Lib.trimS x0.data.toList x1.data.toList).toArray⟩ h',
  fun hq ⟨h0,h1,h2,h3,h4,h5⟩=>⟨h0,h1,h2,h3,h4,fun h' a b=>hq _ _ (h5 h' a b)⟩⟩
theorem KBl (x0 x1:ByteArray):Kn Go.Proofs.Tryz.prog 99 #[.string x0,.string x1] (fun (r:ByteArray)=>.string r) (VG x0 x1):=by
 intro w Q ⟨h0,h1,h2,h3,h4,h5⟩
 have h116:(Go.Proofs.Tryz.prog.info? (166)).map (fun i=>(i.zero,i.size))=some (some (.agg (Array.replicate 256 (.bool false))),256):=by kernel_rfl
 refine (Any.strings_Trim_set KCk (zero_of_info h116).1 (zero_of_info h116).2 x0 x1 w h0 h2 h3 h1 h4).mono ?_
 rintro e w' ⟨rfl,q,rfl⟩
 refine ⟨_,rfl,h5 _ ?_ ?_,⟨rfl,rfl,rfl,Nat.le_add_right _ _⟩⟩
 ·show w.heap.size≤((w.heap.push _).push _).size
  simp; omega
 ·intro i hi
  show ((w.heap.push _).push _)[i]?=_
  rw [Array.getElem?_push,if_neg (by rw [Array.size_push]; omega),Array.getElem?_push,if_neg (by omega)]
abbrev gER:Nat:=7
end Gx
namespace Gx
open Go
set_option linter.unusedVariables false
set_option maxRecDepth 100000
def YZ (x0:Option Addr):M (Value):=do
 let Xx2←mkB We #[.pointer x0]
 M.pure (Value.func (.func Uy) #[] #[.pointer (some Xx2)])
theorem zT (x0:Option Addr):Kn Go.Proofs.Tryz.prog 45 #[.pointer x0] (fun (r:Value)=>r) (YZ x0) :=
 KN [] [0] [.V] [(0,.P x0)] .o Go.Proofs.Tryz.func45 rfl rfl ⟨rfl,trivial⟩ rfl (by kernel_rfl) (by kernel_rfl)
def JC (C3:Option Addr):M (Bool):=do
 let Xx5←nilP C3
 let Xx6←nilP C3
 let Xx7←ldI .i64 ((Xx5).add 1)
 let Xx8←ldS ((Xx6).add 0)
 M.pure (decide (Xx7 < (Xx8.size:Int)))
def JD (self1:(Unit)→M (Bool)) (C24:Option Addr) (Xx23:Bool):M (Bool):=do
 M.ite Xx23 (do
  let Xx25←nilP C24
  let Xx26←ldI .i64 ((Xx25).add 1)
  let Xx27←nilP C24
  stV ((Xx27).add 1) (.int .i64 (IntKind.wrap .i64 (Xx26+1)))
  self1 ()
  ) (do
  JC C24
  )
def Uk (C9:Option Addr) (self1:(Unit)→M (Bool)):(Unit)→M (Bool):=fun s=>match s with
 | ()=>do
  let Xx13←nilP C9
  let Xx14←nilP C9
  let Xx15←ldI .i64 ((Xx13).add 1)
  let Xx16←ldS ((Xx14).add 0)
  M.ite (decide (Xx15 < (Xx16.size:Int))) (do
   let Xx18←nilP C9
   let Xx19←nilP C9
   let Xx20←ldS ((Xx18).add 0)
   let Xx21←ldI .i64 ((Xx19).add 1)
   let Xx22←ixS Xx20 Xx21
   M.ite (Xx22 == 32) (do
    JD self1 C9 (Xx22 == 32)
    ) (do
    JD self1 C9 (Xx22 == 10)
    )
   ) (do
   JC C9
   )
def Jq (x0:Option Addr):M (Bool):=do
 M.loop (Uk x0) ()
theorem Wt (x0:Option Addr):Kn Go.Proofs.Tryz.prog 46 #[.pointer x0] (fun (r:Bool)=>.bool r) (Jq x0) :=
 KN [] [0,3,7,13,17,25,32,36] [.B] [(0,.P x0)] (.q .o (.b (.q .o (.q (.b (.l [(0,.P)] [] (fun (t:Option Addr)=>Uk t) (fun self1=>.q (.q (.r [0,1,2,4,0,16,32,64,128,264] [0,1,2,4,0,16,32,64,128,264] [0,1,3,7,0,16,48,112,240,511] (.pu 0 (.pu 1 (.pu 2 (.pu 4 (.pu 5 (.pu 6 (.pu 3 (.pu 7 (.pu 8 (.pu 9 (.st [9] .dn)))))))))))) .o) (.b (.q (.r [0,1,2,4,0,16,32,64,136] [0,1,2,4,0,16,32,64,136] [0,1,3,7,0,16,48,112,255] (.pu 0 (.pu 1 (.pu 2 (.pu 4 (.pu 5 (.pu 6 (.pu 3 (.pu 7 (.pu 8 (.st [8] .dn))))))))))) (.b (.q .o (.j [(0,.P),(22,.B)] (fun (t:Option Addr × Bool)=>JD self1 t.1 t.2) .o)))))))) (.j [(0,.P)] (fun (t:Option Addr)=>JC t) (.q (.r [0,1,2,4,0,16,32,64,128,264,1023] [0,1,2,4,0,16,32,64,128,264,512] [0,1,3,7,0,16,48,112,240,511,1023] (.pu 0 (.pu 1 (.pu 2 (.pu 4 (.pu 5 (.pu 6 (.pu 3 (.pu 7 (.pu 8 (.pu 9 (.pu 10 (.st [9,10] .dn))))))))))))) .o)))))) Go.Proofs.Tryz.func46 rfl rfl ⟨rfl,trivial⟩ rfl (by kernel_rfl) (by kernel_rfl)
theorem KMH:KBW Go.Proofs.Tryz.f13 8 [[],[0],[],[1,2,0,1,2],[3,0,1,2,3]] [[],[0],[],[1],[]] [[],[0],[],[0,1,2],[0,1,2,3]]=true:=by kernel_rfl
def Ga (C21:Addr) (C22:Addr) (C23:Addr) (C24:Addr) (lp1:Nat):(Array Value)→M Nat:=fun x=>match x with
 | Xx25=>do
  let Xx26←mkB KP (#[.int .i64 0,.string ByteArray.empty,.int .i64 0,.int .i64 0]:Array Value)
  M.need (Xx25.size=4)
  stG Xx26 Xx25
  let _←beg lp1
  let Xx30←ldL C24
  M.ite ((Xx30.len:Int) == 4096) (do
   let Xx32←ldI .i64 ((Xx26).add 3)
   stV C21 ((Sl.nil:Sl).v)
   chk (fun h:Heap=>(KO h ((Xx26).add 3)=some (.int .i64 Xx32)))
   stV C22 (.int .i64 Xx32)
   stV C23 (.int .i64 3)
   M.pure 1
   ) (do
   let Xx36←ldL C24
   let Xx37←ldG 4 Xx26
   let y_39←KCM 4 1 (#[.int .i64 0,.string ByteArray.empty,.int .i64 0,.int .i64 0]:Array Value) [(0,.agg Xx37)]
   let Xx38←bdL KP 1 y_39
   let Xx40←apL KP 4 40 (#[.int .i64 0,.string ByteArray.empty,.int .i64 0,.int .i64 0]:Array Value) Xx36 Xx38
   stV C24 ((Xx40:Sl).v)
   M.pure 0
   )
theorem KKv:KBW Go.Proofs.Tryz.f13 11 [[],[0],[1],[2],[],[3,4,0,1,2,3,4],[5,0,1,2,3,4,5]] [[],[0],[1],[2],[],[3],[]] [[],[0],[0,1],[0,1,2],[],[0,1,2,3,4],[0,1,2,3,4,5]]=true:=by kernel_rfl
def zU (x0:ByteArray):M (Sl × Int × Int):=do
 let Xx2←mkB J5 (#[.slice none 0 0]:Array Value)
 let Xx3←mkB Vo (#[.int .i64 0]:Array Value)
 let Xx4←mkB zy (#[.int .i64 0]:Array Value)
 M.ite (decide ((x0.size:Int) > 16384)) (do
  stV Xx2 ((Sl.nil:Sl).v)
  stV Xx3 (.int .i64 0)
  stV Xx4 (.int .i64 3)
  let _←shut ([])
  let Rr11←ldL Xx2
  let Rr12←ldI .i64 Xx3
  let Rr13←ldI .i64 Xx4
  M.pure (Rr11,Rr12,Rr13)
  ) (do
  let Xx15←mkB NK (#[.string x0,.int .i64 0]:Array Value)
  let Xx17←mkB J5 (#[.slice none 0 0]:Array Value)
  let Xx20←YZ (some Xx15)
  let j_42←rgF Go.Proofs.Tryz.prog (fun x:Array Value=>[.agg x]) [.ret] (Ga Xx2 Xx3 Xx4 Xx17) Xx20
  M.ite (decide (j_42.1=1)) (do
   let _←shut (j_42.2::[])
   let Rr43←ldL Xx2
   let Rr44←ldI .i64 Xx3
   let Rr45←ldI .i64 Xx4
   M.pure (Rr43,Rr44,Rr45)
   ) (do
   let Xx48←Jq (some Xx15)
   M.ite Xx48 (do
    let Xx50←nilP (some Xx15)
    let Xx51←ldI .i64 ((Xx50).add 1)
    stV Xx2 ((Sl.nil:Sl).v)
    chk (fun h:Heap=>(KO h ((Xx50).add 1)=some (.int .i64 Xx51)))
    stV Xx3 (.int .i64 Xx51)
    stV Xx4 (.int .i64 150)
    let _←shut (j_42.2::[])
    let Rr55←ldL Xx2
    let Rr56←ldI .i64 Xx3
    let Rr57←ldI .i64 Xx4
    M.pure (Rr55,Rr56,Rr57)
    ) (do
    let Xx59←ldL Xx17
    stV Xx2 ((Xx59:Sl).v)
    stV Xx3 (.int .i64 (x0.size:Int))
    stV Xx4 (.int .i64 0)
    let _←shut (j_42.2::[])
    let Rr63←ldL Xx2
    let Rr64←ldI .i64 Xx3
    let Rr65←ldI .i64 Xx4
    M.pure (Rr63,Rr64,Rr65)
    )
   )
  )
theorem KHN (x0:ByteArray):Kn Go.Proofs.Tryz.prog 13 #[.string x0] (fun (r:Sl × Int × Int)=>.tuple #[(r.1:Sl).v,.int .i64 r.2.1,.int .i64 r.2.2]) (zU x0):=by
 refine KG9 [(0,.string x0)] Go.Proofs.Tryz.func13 rfl rfl (Nat.le_of_ble_eq_true rfl) (Vs ⟨rfl,trivial⟩) (fun w0 w Q R a hret hE hR H=>?_)
 unfold zU at H
 refine KY (fun K hK_1=>?_)
 refine KF ?_
 obtain ⟨Xx2,qXx2,H⟩:=H
 refine YU (v:=.pointer (some Xx2)) rfl rfl hE rfl hR (Uv zr22 qXx2) (fun a w hE hR hh=>?_)
 replace H:=M.at hh H; clear hh
 obtain ⟨Xx3,qXx3,H⟩:=H
 refine YU (v:=.pointer (some Xx3)) rfl rfl hE rfl hR (Uv zr3 qXx3) (fun a w hE hR hh=>?_)
 replace H:=M.at hh H; clear hh
 obtain ⟨Xx4,qXx4,H⟩:=H
 refine YU (v:=.pointer (some Xx4)) rfl rfl hE rfl hR (Uv zr23 qXx4) (fun a w hE hR hh=>?_)
 replace H:=M.at hh H; clear hh
 refine KX ?_
 refine hK_1 _ _ ?_
 refine KY (fun K hK_5=>?_)
 refine KY (fun K hK_6=>?_)
 refine KF ?_
 refine KC (v:=.string x0) rfl rfl hE rfl (KG hE rfl) (fun a hE=>?_)
 refine KC (v:=.int .i64 (x0.size:Int)) rfl rfl hE rfl (YT hE rfl un9) (fun a hE=>?_)
 refine KC (v:=.bool (decide ((x0.size:Int) > 16384))) rfl rfl hE rfl (ZH hE rfl rfl K9 KDN) (fun a hE=>?_)
 refine KX ?_
 refine hK_6 _ _ ?_
 refine JB (decide ((x0.size:Int) > 16384)) hE rfl (fun hb=>?_) (fun hb=>?_)
 ·replace H:=M.ite_t hb H
  refine KY (fun K hK_7=>?_)
  refine KF ?_
  obtain ⟨u_8,qu_8,H⟩:=H
  refine Uc rfl rfl hE hR (Zb hE rfl rfl sz22 qu_8) (fun a w hE hR hh=>?_)
  replace H:=M.at hh H; clear hh
  obtain ⟨u_9,qu_9,H⟩:=H
  refine Uc rfl rfl hE hR (Zb hE rfl rfl sz3 qu_9) (fun a w hE hR hh=>?_)
  replace H:=M.at hh H; clear hh
  obtain ⟨u_10,qu_10,H⟩:=H
  refine Uc rfl rfl hE hR (Zb hE rfl rfl sz23 qu_10) (fun a w hE hR hh=>?_)
  replace H:=M.at hh H; clear hh
  refine KX ?_
  refine hK_7 _ _ ?_
  refine WD ?_
  refine hret _ _ _ _ _ hE hR (M.unbind H) (fun w hR H=>?_)
  obtain ⟨Rr11,qRr11,H⟩:=H
  obtain ⟨Rr12,qRr12,H⟩:=H
  obtain ⟨Rr13,qRr13,H⟩:=H
  exact ⟨(Rr11,Rr12,Rr13),_,Zu hE rfl (RV.cell rfl sc22 qRr11 (RV.cell rfl sc3 qRr12 (RV.cell rfl sc23 qRr13 RV.nil))),rfl,H⟩
 ·replace H:=M.ite_f hb H
  refine J2 ?_
  refine hK_5 _ _ ?_
  refine KY (fun K hK_14=>?_)
  refine KF ?_
  refine KC (v:=.string x0) rfl rfl hE rfl (KG hE rfl) (fun a hE=>?_)
  refine KC (v:=.agg (#[.string x0,.int .i64 0]:Array Value)) rfl rfl hE rfl (XW hE rfl zr70 pl70 (by rfl)) (fun a hE=>?_)
  obtain ⟨Xx15,qXx15,H⟩:=H
  refine YU (v:=.pointer (some Xx15)) rfl rfl hE rfl hR (KJ8 hE rfl qXx15) (fun a w hE hR hh=>?_)
  replace H:=M.at hh H; clear hh
  refine KC (v:=.pointer (some Xx15)) rfl rfl hE rfl (Kc hE rfl) (fun a hE=>?_)
  refine KX ?_
  refine hK_14 _ _ ?_
  refine KY (fun K hK_16=>?_)
  refine KF ?_
  obtain ⟨Xx17,qXx17,H⟩:=H
  refine YU (v:=.pointer (some Xx17)) rfl rfl hE rfl hR (Uv zr22 qXx17) (fun a w hE hR hh=>?_)
  replace H:=M.at hh H; clear hh
  refine KX ?_
  refine hK_16 _ _ ?_
  refine KY (fun K hK_18=>?_)
  refine KY (fun K hK_19=>?_)
  refine KF ?_
  refine KC (v:=.pointer (some Xx15)) rfl rfl hE rfl (KG hE rfl) (fun a hE=>?_)
  refine UN hE hR qT rfl (zT (some Xx15)) (M.unbind H) (fun Xx20 a w ea hR H=>?_)
  have hE:=Env.put_some hE rfl ea; clear ea
  refine KX ?_
  refine hK_19 _ _ ?_
  refine WY ?_
  refine KIl (js:=[.ret]) (enc:=(fun x:Array Value=>[.agg x])) (Y:=(Ga Xx2 Xx3 Xx4 Xx17)) hE hR rfl (fun x=>rfl) rfl (M.unbind H) (fun lp1 Xx25 Q w0 Rr hfin a w hE hR H=>?_) (fun j_42 a w hE hR H=>?_)
  ·skip
   replace hE:Env (⟨35,[]⟩:Frm) a [(2,.pointer (some Xx2)),(3,.pointer (some Xx3)),(4,.pointer (some Xx4)),(6,.pointer (some Xx17)),(16,.agg Xx25)]:=Env.cut hE (.cons rfl (.cons rfl (.cons rfl (.cons rfl (.cons rfl Subs.nil)))))
   replace H:(Ga Xx2 Xx3 Xx4 Xx17 lp1 Xx25).wp w.heap Q:=H
   unfold Ga at H
   refine KF ?_
   obtain ⟨Xx26,qXx26,H⟩:=H
   refine YU (v:=.pointer (some Xx26)) rfl rfl hE rfl hR (Uv zr29 qXx26) (fun a w hE hR hh=>?_)
   replace H:=M.at hh H; clear hh
   obtain ⟨qz,H⟩:=H
   obtain ⟨u_27,qu_27,H⟩:=H
   refine Uc rfl rfl hE hR (Z9 hE rfl rfl sz29 qz qu_27) (fun a w hE hR hh=>?_)
   replace H:=M.at hh H; clear hh
   refine KX ?_
   refine KMz hR H (fun w hR H=>?_)
   refine WY ?_
   refine KY (fun K hK_28=>?_)
   refine KY (fun K hK_29=>?_)
   refine KF ?_
   obtain ⟨Xx30,qXx30,H⟩:=H
   refine KC (v:=(Xx30:Sl).v) rfl rfl hE rfl (ZE hE rfl sc22 qXx30) (fun a hE=>?_)
   refine KC (v:=.int .i64 (Xx30.len:Int)) rfl rfl hE rfl (KJ9 hE rfl 29 un22) (fun a hE=>?_)
   refine KC (v:=.bool ((Xx30.len:Int) == 4096)) rfl rfl hE rfl (ZH hE rfl rfl K9 XG) (fun a hE=>?_)
   refine KX ?_
   refine hK_29 _ _ ?_
   refine JB ((Xx30.len:Int) == 4096) hE rfl (fun hb=>?_) (fun hb=>?_)
   ·replace H:=M.ite_t hb H
    refine KY (fun K hK_31=>?_)
    obtain ⟨Xx32,qXx32,H⟩:=H
    have hT:=YV KMH rfl rfl
    refine Ux (fun w:World=>(fun h:Heap=>(KO h ((Xx26).add 3)=some (.int .i64 Xx32))) w.heap) [3,4] #[false,false,false,false,false] mo hR rfl rfl (fun w' e=>by rw [e]; exact qXx32) (fun w hh hR hs=>?_)
    replace H:=M.at hh H; clear hh
    refine KB (i:=0) (v:=.pointer (some ((Xx26).add 3))) #[true,false,false,false,false] rfl rfl hT (by kernel_rfl) hE rfl (KA rfl) (fun w=>KH hE rfl KJr) (fun a hE=>?_)
    refine Jo (i:=1) (v:=.int .i64 Xx32) #[true,true,false,false,false] rfl rfl hT (by kernel_rfl) hE rfl (KA rfl) hs (fun w s=>ZE hE rfl sc3 s) (fun a hE=>?_)
    obtain ⟨u_33,qu_33,H⟩:=H
    obtain ⟨_,sA,H⟩:=H
    refine KKI (i:=2) #[true,true,true,false,false] rfl rfl hT (by kernel_rfl) rfl hE hR (KA rfl) (Zb hE rfl rfl sz22 qu_33)  (fun w' e=>by rw [e]; exact sA) (fun a w hE hR hh hs=>?_)
    replace H:=M.at hh H; clear hh
    obtain ⟨u_34,qu_34,H⟩:=H
    refine KAd (i:=3) #[true,true,true,true,false] rfl rfl hT (by kernel_rfl) rfl hE hR (KA rfl) (Zb hE rfl rfl sz3 qu_34)  (fun a w hE hR hh=>?_)
    replace H:=M.at hh H; clear hh
    obtain ⟨u_35,qu_35,H⟩:=H
    refine KAd (i:=4) #[true,true,true,true,true] rfl rfl hT (by kernel_rfl) rfl hE hR (KA rfl) (Zb hE rfl rfl sz23 qu_35)  (fun a w hE hR hh=>?_)
    replace H:=M.at hh H; clear hh
    refine Wp hT (by kernel_rfl) ?_
    refine hK_31 _ _ ?_
    refine WD ?_
    exact ⟨0,rfl,hfin 1 _ _ hR H⟩
   ·replace H:=M.ite_f hb H
    refine J2 ?_
    refine hK_28 _ _ ?_
    refine KF ?_
    obtain ⟨Xx36,qXx36,H⟩:=H
    refine KC (v:=(Xx36:Sl).v) rfl rfl hE rfl (ZE hE rfl sc22 qXx36) (fun a hE=>?_)
    obtain ⟨Xx37,qXx37,H⟩:=H
    refine KC (v:=.agg Xx37) rfl rfl hE rfl (zJ hE rfl ag29 qXx37) (fun a hE=>?_)
    obtain ⟨y_39,qy_39,H⟩:=H
    obtain ⟨Xx38,qXx38,H⟩:=H
    refine YU (v:=(Xx38:Sl).v) rfl rfl hE rfl hR (GX hE rfl un22 sz29 zr29 rfl qy_39 qXx38) (fun a w hE hR hh=>?_)
    replace H:=M.at hh H; clear hh
    refine t_ex (fun Xx40=>(Xx40:Sl).v) rfl rfl hR (M.unbind H) (fun Q H=>KDT hE rfl rfl ap22 H) (fun Xx40 a w ea hR H=>?_)
    have hE:=Env.put_some hE rfl ea; clear ea
    obtain ⟨u_41,qu_41,H⟩:=H
    refine Uc rfl rfl hE hR (Zb hE rfl rfl sz22 qu_41) (fun a w hE hR hh=>?_)
    replace H:=M.at hh H; clear hh
    refine KX ?_
    exact hfin 0 _ _ hR H
  ·skip
   replace hE:Env (⟨35,(j_42.2::[])⟩:Frm) a [(0,.string x0),(2,.pointer (some Xx2)),(3,.pointer (some Xx3)),(4,.pointer (some Xx4)),(5,.pointer (some Xx15)),(6,.pointer (some Xx17))]:=Env.cut hE (.cons rfl (.cons rfl (.cons rfl (.cons rfl (.cons rfl (.cons rfl Subs.nil))))))
   refine KIj (fun hj=>?_) (fun hj=>?_)
   ·replace H:=M.ite_t (decide_eq_true hj) H
    refine WD ?_
    refine hret _ _ _ _ _ hE hR (M.unbind H) (fun w hR H=>?_)
    obtain ⟨Rr43,qRr43,H⟩:=H
    obtain ⟨Rr44,qRr44,H⟩:=H
    obtain ⟨Rr45,qRr45,H⟩:=H
    exact ⟨(Rr43,Rr44,Rr45),_,Zu hE rfl (RV.cell rfl sc22 qRr43 (RV.cell rfl sc3 qRr44 (RV.cell rfl sc23 qRr45 RV.nil))),rfl,H⟩
   ·replace H:=M.ite_f (decide_eq_false hj) H
    refine KKZ ?_
    refine hK_18 _ _ ?_
    refine KY (fun K hK_46=>?_)
    refine KY (fun K hK_47=>?_)
    refine KF ?_
    refine KC (v:=.pointer (some Xx15)) rfl rfl hE rfl (KG hE rfl) (fun a hE=>?_)
    refine UN hE hR WK rfl (Wt (some Xx15)) (M.unbind H) (fun Xx48 a w ea hR H=>?_)
    have hE:=Env.put_some hE rfl ea; clear ea
    refine KX ?_
    refine hK_47 _ _ ?_
    refine JB Xx48 hE rfl (fun hb=>?_) (fun hb=>?_)
    ·replace H:=M.ite_t hb H
     refine KY (fun K hK_49=>?_)
     obtain ⟨Xx50,qXx50,H⟩:=H
     obtain ⟨Xx51,qXx51,H⟩:=H
     have hT:=YV KKv rfl rfl
     refine Ux (fun w:World=>(fun h:Heap=>(KO h ((Xx50).add 1)=some (.int .i64 Xx51))) w.heap) [5,6] #[false,false,false,false,false,false,false] mo hR rfl rfl (fun w' e=>by rw [e]; exact qXx51) (fun w hh hR hs=>?_)
     replace H:=M.at hh H; clear hh
     refine KB (i:=0) (v:=.pointer (some Xx15)) #[true,false,false,false,false,false,false] rfl rfl hT (by kernel_rfl) hE rfl (KA rfl) (fun w=>KG hE rfl) (fun a hE=>?_)
     refine KB (i:=1) (v:=.pointer (some Xx50)) #[true,true,false,false,false,false,false] rfl rfl hT (by kernel_rfl) hE rfl (KA rfl) (fun w=>KL hE (Zv rfl (congrArg Value.pointer qXx50))) (fun a hE=>?_)
     refine KB (i:=2) (v:=.pointer (some ((Xx50).add 1))) #[true,true,true,false,false,false,false] rfl rfl hT (by kernel_rfl) hE rfl (KA rfl) (fun w=>KH hE rfl KDm) (fun a hE=>?_)
     refine Jo (i:=3) (v:=.int .i64 Xx51) #[true,true,true,true,false,false,false] rfl rfl hT (by kernel_rfl) hE rfl (KA rfl) hs (fun w s=>ZE hE rfl sc3 s) (fun a hE=>?_)
     obtain ⟨u_52,qu_52,H⟩:=H
     obtain ⟨_,sA,H⟩:=H
     refine KKI (i:=4) #[true,true,true,true,true,false,false] rfl rfl hT (by kernel_rfl) rfl hE hR (KA rfl) (Zb hE rfl rfl sz22 qu_52)  (fun w' e=>by rw [e]; exact sA) (fun a w hE hR hh hs=>?_)
     replace H:=M.at hh H; clear hh
     obtain ⟨u_53,qu_53,H⟩:=H
     refine KAd (i:=5) #[true,true,true,true,true,true,false] rfl rfl hT (by kernel_rfl) rfl hE hR (KA rfl) (Zb hE rfl rfl sz3 qu_53)  (fun a w hE hR hh=>?_)
     replace H:=M.at hh H; clear hh
     obtain ⟨u_54,qu_54,H⟩:=H
     refine KAd (i:=6) #[true,true,true,true,true,true,true] rfl rfl hT (by kernel_rfl) rfl hE hR (KA rfl) (Zb hE rfl rfl sz23 qu_54)  (fun a w hE hR hh=>?_)
     replace H:=M.at hh H; clear hh
     refine Wp hT (by kernel_rfl) ?_
     refine hK_49 _ _ ?_
     refine WD ?_
     refine hret _ _ _ _ _ hE hR (M.unbind H) (fun w hR H=>?_)
     obtain ⟨Rr55,qRr55,H⟩:=H
     obtain ⟨Rr56,qRr56,H⟩:=H
     obtain ⟨Rr57,qRr57,H⟩:=H
     exact ⟨(Rr55,Rr56,Rr57),_,Zu hE rfl (RV.cell rfl sc22 qRr55 (RV.cell rfl sc3 qRr56 (RV.cell rfl sc23 qRr57 RV.nil))),rfl,H⟩
    ·replace H:=M.ite_f hb H
     refine J2 ?_
     refine hK_46 _ _ ?_
     refine KY (fun K hK_58=>?_)
     refine KF ?_
     obtain ⟨Xx59,qXx59,H⟩:=H
     refine KC (v:=(Xx59:Sl).v) rfl rfl hE rfl (ZE hE rfl sc22 qXx59) (fun a hE=>?_)
     refine KC (v:=.string x0) rfl rfl hE rfl (KG hE rfl) (fun a hE=>?_)
     refine KC (v:=.int .i64 (x0.size:Int)) rfl rfl hE rfl (YT hE rfl un9) (fun a hE=>?_)
     obtain ⟨u_60,qu_60,H⟩:=H
     refine Uc rfl rfl hE hR (Zb hE rfl rfl sz22 qu_60) (fun a w hE hR hh=>?_)
     replace H:=M.at hh H; clear hh
     obtain ⟨u_61,qu_61,H⟩:=H
     refine Uc rfl rfl hE hR (Zb hE rfl rfl sz3 qu_61) (fun a w hE hR hh=>?_)
     replace H:=M.at hh H; clear hh
     obtain ⟨u_62,qu_62,H⟩:=H
     refine Uc rfl rfl hE hR (Zb hE rfl rfl sz23 qu_62) (fun a w hE hR hh=>?_)
     replace H:=M.at hh H; clear hh
     refine KX ?_
     refine hK_58 _ _ ?_
     refine WD ?_
     refine hret _ _ _ _ _ hE hR (M.unbind H) (fun w hR H=>?_)
     obtain ⟨Rr63,qRr63,H⟩:=H
     obtain ⟨Rr64,qRr64,H⟩:=H
     obtain ⟨Rr65,qRr65,H⟩:=H
     exact ⟨(Rr63,Rr64,Rr65),_,Zu hE rfl (RV.cell rfl sc22 qRr63 (RV.cell rfl sc3 qRr64 (RV.cell rfl sc23 qRr65 RV.nil))),rfl,H⟩
noncomputable def KHO:CalleeS Go.Proofs.Tryz.prog:=mkC KGG KGH [.S] [.L,.I .i64,.I .i64] (fun (t:ByteArray)=>zU t) (fun (t:ByteArray)=>KHN t)
def JH (x0:Int):M (Bool):=do
 let Xx3←M.ite (x0 == 95) (do
  M.pure true
  ) (do
  let Xx4←M.ite (decide (x0 ≥ 97)) (do
   M.pure (decide (x0≤122))
   ) (do
   M.pure false
   )
  M.pure Xx4
  )
 let Xx5←M.ite Xx3 (do
  M.pure true
  ) (do
  let Xx6←M.ite (decide (x0 ≥ 65)) (do
   M.pure (decide (x0≤90))
   ) (do
   M.pure false
   )
  M.pure Xx6
  )
 M.pure Xx5
theorem NA (x0:Int):Kn Go.Proofs.Tryz.prog 101 #[.int .u8 x0] (fun (r:Bool)=>.bool r) (JH x0) :=
 KN [] [] [.B] [(0,.I .u8 x0)] .o Go.Proofs.Tryz.func101 rfl rfl ⟨rfl,trivial⟩ rfl (by kernel_rfl) (by kernel_rfl)
noncomputable def NB:CalleeS Go.Proofs.Tryz.prog:=mkC GF GI [.I .u8] [.B] (fun (t:Int)=>JH t) (fun (t:Int)=>NA t)
def VA (C12:ByteArray) (self1:(Int)→M (Bool)):(Int)→M (Bool):=fun s=>match s with
 | Xx11=>do
  M.ite (decide (Xx11 < (C12.size:Int))) (do
   let Xx18←ixS C12 Xx11
   let Xx19←JH Xx18
   let Xx20←M.ite (!Xx19) (do
    let Xx21←ixS C12 Xx11
    let Xx22←M.ite (decide (Xx21 < 48)) (do
     M.pure true
     ) (do
     let Xx23←ixS C12 Xx11
     M.pure (decide (Xx23 > 57))
     )
    M.pure Xx22
    ) (do
    M.pure false
    )
   M.ite Xx20 (do
    M.pure false
    ) (do
    self1 (IntKind.wrap .i64 (Xx11+1))
    )
   ) (do
   M.pure true
   )
def UP (x0:ByteArray):M (Bool):=do
 let Xx4←M.ite (sEq x0 ByteArray.empty) (do
  M.pure true
  ) (do
  M.pure (decide ((x0.size:Int) > 24))
  )
 let Xx5←M.ite Xx4 (do
  M.pure true
  ) (do
  let Xx6←ixS x0 0
  let Xx7←JH Xx6
  M.pure (!Xx7)
  )
 M.ite Xx5 (do
  M.pure false
  ) (do
  M.loop (VA x0) 0
  )
theorem qf (x0:ByteArray):Kn Go.Proofs.Tryz.prog 55 #[.string x0] (fun (r:Bool)=>.bool r) (UP x0) :=
 KN [NB] [] [.B] [(0,.S x0)] (.q .o (.q .o (.q (.q .o (.b (.l [(0,.S)] [(3,.I .i64)] (fun (t:ByteArray)=>VA t) (fun _=>.o)))) .o))) Go.Proofs.Tryz.func55 rfl rfl ⟨rfl,trivial⟩ rfl (by kernel_rfl) (by kernel_rfl)
noncomputable def qg:CalleeS Go.Proofs.Tryz.prog:=mkC NV Ng [.S] [.B] (fun (t:ByteArray)=>UP t) (fun (t:ByteArray)=>qf t)
def VB (C5:Int) (self1:(Int)→M (Bool)):(Int)→M (Bool):=fun s=>match s with
 | Xx4=>do
  M.ite (decide (Xx4 < 11)) (do
   let Xx11←ixS (⟨#[46,40,41,44,91,93,123,125,58,61,59]⟩:ByteArray) Xx4
   M.ite (Xx11 == C5) (do
    M.pure true
    ) (do
    self1 (IntKind.wrap .i64 (Xx4+1))
    )
   ) (do
   M.pure false
   )
def UQ (x0:Int):M (Bool):=do
 M.loop (VB x0) 0
theorem qh (x0:Int):Kn Go.Proofs.Tryz.prog 56 #[.int .u8 x0] (fun (r:Bool)=>.bool r) (UQ x0) :=
 KN [] [] [.B] [(0,.I .u8 x0)] (.q .o (.q (.q .o (.b (.l [(0,.I .u8)] [(3,.I .i64)] (fun (t:Int)=>VB t) (fun _=>.o)))) .o)) Go.Proofs.Tryz.func56 rfl rfl ⟨rfl,trivial⟩ rfl (by kernel_rfl) (by kernel_rfl)
noncomputable def qj:CalleeS Go.Proofs.Tryz.prog:=mkC NY Nj [.I .u8] [.B] (fun (t:Int)=>UQ t) (fun (t:Int)=>qh t)
def ZG (C5:Addr) (Xx4:Bool):M (Int):=do
 let Xx8←M.ite (!Xx4) (do
  M.pure true
  ) (do
  let Xx9←ldI .i64 ((C5).add 3)
  M.pure (decide (Xx9 < 0))
  )
 M.ite Xx8 (do
  M.pure 150
  ) (do
  M.pure 0
  )
def Z1 (x0:Array Value):M (Int):=do
 let Xx2←mkB KP x0
 let Xx13←ldI .i64 ((Xx2).add 0)
 M.ite (Xx13 == 1) (do
  let Xx15←ldS ((Xx2).add 1)
  let Xx16←UP Xx15
  let Xx17←M.ite Xx16 (do
   let Xx18←ldI .i64 ((Xx2).add 2)
   M.pure (Xx18 == 0)
   ) (do
   M.pure false
   )
  ZG Xx2 Xx17
  ) (do
  M.ite (Xx13 == 2) (do
   let Xx20←ldS ((Xx2).add 1)
   ZG Xx2 (sEq Xx20 ByteArray.empty)
   ) (do
   M.ite (Xx13 == 3) (do
    let Xx22←ldS ((Xx2).add 1)
    let Xx23←M.ite (decide ((Xx22.size:Int)≤128)) (do
     let Xx24←ldI .i64 ((Xx2).add 2)
     M.pure (Xx24 == 0)
     ) (do
     M.pure false
     )
    ZG Xx2 Xx23
    ) (do
    M.ite (Xx13 == 4) (do
     let Xx26←ldS ((Xx2).add 1)
     let Xx27←M.ite ((Xx26.size:Int) == 1) (do
      let Xx28←ldS ((Xx2).add 1)
      let Xx29←ixS Xx28 0
      let Xx30←UQ Xx29
      M.pure Xx30
      ) (do
      M.pure false
      )
     let Xx31←M.ite Xx27 (do
      let Xx32←ldI .i64 ((Xx2).add 2)
      M.pure (Xx32 == 0)
      ) (do
      M.pure false
      )
     ZG Xx2 Xx31
     ) (do
     ZG Xx2 false
     )
    )
   )
  )
theorem Nn (x0:Array Value):Kn Go.Proofs.Tryz.prog 23 #[.agg x0] (fun (r:Int)=>.int .i64 r) (Z1 x0) :=
 KN [qg,qj] [] [.I .i64] [(0,.G x0)] (.q .o (.q .o (.q .o (.j [(1,.A),(3,.B)] (fun (t:Addr × Bool)=>ZG t.1 t.2) .o)))) Go.Proofs.Tryz.func23 rfl rfl ⟨rfl,trivial⟩ rfl (by kernel_rfl) (by kernel_rfl)
noncomputable def VC:CalleeS Go.Proofs.Tryz.prog:=mkC Gk Gz [.G] [.I .i64] (fun (t:Array Value)=>Z1 t) (fun (t:Array Value)=>Nn t)
def VQ (x0:Int):M (Array Value):=do
 let Xx2←mkB KI (#[.int .i64 0,.int .i64 0,.string ByteArray.empty,.slice none 0 0]:Array Value)
 M.need ((#[.int .i64 1,.int .i64 x0,.string ByteArray.empty,.slice none 0 0]:Array Value).size=4)
 stG Xx2 (#[.int .i64 1,.int .i64 x0,.string ByteArray.empty,.slice none 0 0]:Array Value)
 let Rr5←ldG 4 Xx2
 M.pure Rr5
theorem zV (x0:Int):Kn Go.Proofs.Tryz.prog 57 #[.int .i64 x0] (fun (r:Array Value)=>.agg r) (VQ x0) :=
 KN [] [] [.G] [(0,.I .i64 x0)] .o Go.Proofs.Tryz.func57 rfl rfl ⟨rfl,trivial⟩ rfl (by kernel_rfl) (by kernel_rfl)
noncomputable def zW:CalleeS Go.Proofs.Tryz.prog:=mkC qN qV [.I .i64] [.G] (fun (t:Int)=>VQ t) (fun (t:Int)=>zV t)
def VR (x0:ByteArray):M (Array Value):=do
 let Xx2←mkB KI (#[.int .i64 0,.int .i64 0,.string ByteArray.empty,.slice none 0 0]:Array Value)
 M.need ((#[.int .i64 2,.int .i64 0,.string x0,.slice none 0 0]:Array Value).size=4)
 stG Xx2 (#[.int .i64 2,.int .i64 0,.string x0,.slice none 0 0]:Array Value)
 let Rr5←ldG 4 Xx2
 M.pure Rr5
theorem zX (x0:ByteArray):Kn Go.Proofs.Tryz.prog 58 #[.string x0] (fun (r:Array Value)=>.agg r) (VR x0) :=
 KN [] [] [.G] [(0,.S x0)] .o Go.Proofs.Tryz.func58 rfl rfl ⟨rfl,trivial⟩ rfl (by kernel_rfl) (by kernel_rfl)
noncomputable def zY:CalleeS Go.Proofs.Tryz.prog:=mkC qO qW [.S] [.G] (fun (t:ByteArray)=>VR t) (fun (t:ByteArray)=>zX t)
end Gx
namespace Gx
open Go
set_option linter.unusedVariables false
set_option maxRecDepth 100000
def J6 :M (Bool):=do
 let Xx3←zU (⟨#[103,46,86,40,49,41]⟩:ByteArray)
 let Xx5←M.ite ((Xx3.1.len:Int) == 6) (do
  let Xx6←ixL Xx3.1 4 4
  let Xx7←ldG 4 Xx6
  let Xx8←eqS [.I .i64,.S,.I .i64,.I .i64] Xx7 (#[.int .i64 2,.string ByteArray.empty,.int .i64 1,.int .i64 4]:Array Value)
  M.pure Xx8
  ) (do
  M.pure false
  )
 let Xx9←M.ite Xx5 (do
  M.pure (Xx3.2.1 == 6)
  ) (do
  M.pure false
  )
 let Xx10←M.ite Xx9 (do
  M.pure (Xx3.2.2 == 0)
  ) (do
  M.pure false
  )
 M.pure Xx10
theorem No :Kn Go.Proofs.Tryz.prog 15 #[] (fun (r:Bool)=>.bool r) (J6 ) :=
 KN [KHO] [] [.B] [] .o Go.Proofs.Tryz.func15 rfl rfl trivial rfl (by kernel_rfl) (by kernel_rfl)
noncomputable def Np:CalleeS Go.Proofs.Tryz.prog:=mkC Gi Gu [] [.B] (fun (t:Unit)=>J6) (fun (t:Unit)=>No)
def XJ (x0:ByteArray):M (Bool):=do
 let Xx4←M.ite (sEq x0 ByteArray.empty) (do
  M.pure true
  ) (do
  M.pure (decide ((x0.size:Int) > 24))
  )
 let Xx5←M.ite Xx4 (do
  M.pure true
  ) (do
  let Xx6←ixS x0 0
  let Xx7←M.ite (decide (Xx6 ≥ 48)) (do
   let Xx8←ixS x0 0
   M.pure (decide (Xx8≤57))
   ) (do
   M.pure false
   )
  M.pure Xx7
  )
 M.ite Xx5 (do
  M.pure false
  ) (do
  let Xx11←VG x0 (⟨#[97,98,99,100,101,102,103,104,105,106,107,108,109,110,111,112,113,114,115,116,117,118,119,120,121,122,65,66,67,68,69,70,71,72,73,74,75,76,77,78,79,80,81,82,83,84,85,86,87,88,89,90,48,49,50,51,52,53,54,55,56,57,95]⟩:ByteArray)
  M.pure (sEq Xx11 ByteArray.empty)
  )
theorem KDn (x0:ByteArray):Kn Go.Proofs.Tryz.prog 53 #[.string x0] (fun (r:Bool)=>.bool r) (XJ x0) :=
 KN [mkC KAn KAr [.S,.S] [.S] (fun (t:ByteArray × ByteArray)=>VG t.1 t.2) (fun (t:ByteArray × ByteArray)=>KBl t.1 t.2)] [] [.B] [(0,.S x0)] .o Go.Proofs.Tryz.func53 rfl rfl ⟨rfl,trivial⟩ rfl (by kernel_rfl) (by kernel_rfl)
noncomputable def KDo:CalleeS Go.Proofs.Tryz.prog:=mkC KCZ KCf [.S] [.B] (fun (t:ByteArray)=>XJ t) (fun (t:ByteArray)=>KDn t)
def Zc (x0:ByteArray) (x1:Int):M (Int):=do
 let Xx3←ZA x0 x1
 M.pure Xx3
theorem VD (x0:ByteArray) (x1:Int):Kn Go.Proofs.Tryz.prog 100 #[.string x0,.int .u8 x1] (fun (r:Int)=>.int .i64 r) (Zc x0 x1) :=
 KN [mkC VM VO [.S,.I .u8] [.I .i64] (fun (t:ByteArray × Int)=>ZA t.1 t.2) (fun (t:ByteArray × Int)=>Vn t.1 t.2)] [] [.I .i64] [(0,.S x0),(1,.I .u8 x1)] .o Go.Proofs.Tryz.func100 rfl rfl ⟨rfl,rfl,trivial⟩ rfl (by kernel_rfl) (by kernel_rfl)
noncomputable def Nq:CalleeS Go.Proofs.Tryz.prog:=mkC Gq Uz [.S,.I .u8] [.I .i64] (fun (t:ByteArray × Int)=>Zc t.1 t.2) (fun (t:ByteArray × Int)=>VD t.1 t.2)
def YP (x0:Int):M (Bool):=do
 let Xx3←Zc (⟨#[46,40,41,44,91,93,123,125,58,61,59]⟩:ByteArray) x0
 M.pure (decide (Xx3 ≥ 0))
theorem KDp (x0:Int):Kn Go.Proofs.Tryz.prog 54 #[.int .u8 x0] (fun (r:Bool)=>.bool r) (YP x0) :=
 KN [Nq] [] [.B] [(0,.I .u8 x0)] .o Go.Proofs.Tryz.func54 rfl rfl ⟨rfl,trivial⟩ rfl (by kernel_rfl) (by kernel_rfl)
noncomputable def z8:CalleeS Go.Proofs.Tryz.prog:=mkC KCX KCd [.I .u8] [.B] (fun (t:Int)=>YP t) (fun (t:Int)=>KDp t)
def UF (Xx12:Bool):M (Int):=do
 M.ite (!Xx12) (do
  M.pure 150
  ) (do
  M.pure 0
  )
def VS (x0:Array Value):M (Int):=do
 let Xx2←mkB KP x0
 let Xx5←ldI .i64 ((Xx2).add 3)
 let Xx6←M.ite (decide (Xx5 < 0)) (do
  M.pure true
  ) (do
  let Xx7←ldI .i64 ((Xx2).add 2)
  let Xx8←M.ite (Xx7 != 0) (do
   let Xx9←ldI .i64 ((Xx2).add 0)
   M.pure (Xx9 != 2)
   ) (do
   M.pure false
   )
  M.pure Xx8
  )
 M.ite Xx6 (do
  M.pure 150
  ) (do
  let Xx18←ldI .i64 ((Xx2).add 0)
  M.ite (Xx18 == 1) (do
   let Xx20←ldS ((Xx2).add 1)
   let Xx21←XJ Xx20
   UF Xx21
   ) (do
   M.ite (Xx18 == 2) (do
    let Xx23←ldS ((Xx2).add 1)
    UF (sEq Xx23 ByteArray.empty)
    ) (do
    M.ite (Xx18 == 3) (do
     let Xx25←ldS ((Xx2).add 1)
     UF (decide ((Xx25.size:Int)≤128))
     ) (do
     M.ite (Xx18 == 4) (do
      let Xx27←ldS ((Xx2).add 1)
      let Xx28←M.ite ((Xx27.size:Int) == 1) (do
       let Xx29←ldS ((Xx2).add 1)
       let Xx30←ixS Xx29 0
       let Xx31←YP Xx30
       M.pure Xx31
       ) (do
       M.pure false
       )
      UF Xx28
      ) (do
      UF false
      )
     )
    )
   )
  )
theorem KAu (x0:Array Value):Kn Go.Proofs.Tryz.prog 22 #[.agg x0] (fun (r:Int)=>.int .i64 r) (VS x0) :=
 KN [KDo,z8] [] [.I .i64] [(0,.G x0)] (.q .o (.q .o (.q .o (.q .o (.j [(3,.B)] (fun (t:Bool)=>UF t) .o))))) Go.Proofs.Tryz.func22 rfl rfl ⟨rfl,trivial⟩ rfl (by kernel_rfl) (by kernel_rfl)
noncomputable def Nr:CalleeS Go.Proofs.Tryz.prog:=mkC KDb zz [.G] [.I .i64] (fun (t:Array Value)=>VS t) (fun (t:Array Value)=>KAu t)
def Zd (x0:Int) (x1:Int):M (ByteArray):=do
 let Xx3←N7 Go.Proofs.Tryz.prog JJ #[.int .i64 x0,.int .i64 x1] (fun r:ByteArray=>.string r)
 M.pure Xx3
theorem Ns (x0:Int) (x1:Int):Kn Go.Proofs.Tryz.prog 188 #[.int .i64 x0,.int .i64 x1] (fun (r:ByteArray)=>.string r) (Zd x0 x1) :=
 KN [mkC JJ Wf [.I .i64,.I .i64] [.S] (fun (t:Int × Int)=>N7 Go.Proofs.Tryz.prog JJ #[.int .i64 t.1,.int .i64 t.2] (fun r:ByteArray=>.string r)) (fun (t:Int × Int)=>Vr)] [] [.S] [(0,.I .i64 x0),(1,.I .i64 x1)] .o Go.Proofs.Tryz.func188 rfl rfl ⟨rfl,rfl,trivial⟩ rfl (by kernel_rfl) (by kernel_rfl)
noncomputable def Ya:CalleeS Go.Proofs.Tryz.prog:=mkC Gm G8 [.I .i64,.I .i64] [.S] (fun (t:Int × Int)=>Zd t.1 t.2) (fun (t:Int × Int)=>Ns t.1 t.2)
def Xi (x0:Int):M (ByteArray):=do
 let Xx3←Zd x0 10
 M.pure Xx3
theorem KGI (x0:Int):Kn Go.Proofs.Tryz.prog 130 #[.int .i64 x0] (fun (r:ByteArray)=>.string r) (Xi x0) :=
 KN [Ya] [] [.S] [(0,.I .i64 x0)] .o Go.Proofs.Tryz.func130 rfl rfl ⟨rfl,trivial⟩ rfl (by kernel_rfl) (by kernel_rfl)
noncomputable def KGJ:CalleeS Go.Proofs.Tryz.prog:=mkC KEf KEj [.I .i64] [.S] (fun (t:Int)=>Xi t) (fun (t:Int)=>KGI t)
def Ka (x0:Option Addr) (x1:Int):M (Value):=do
 let Xx3←Kt x0
 let Xx5←nilP x0
 let Xx6←ldL ((Xx5).add 1)
 let Xx7←bdL KU 1 #[.int .u8 x1]
 let Xx8←apL KU 1 1 (#[.int .u8 0]:Array Value) Xx6 Xx7
 let Xx9←nilP x0
 stV ((Xx9).add 1) ((Xx8:Sl).v)
 M.pure Value.nilIface
theorem Yc (x0:Option Addr) (x1:Int):Kn Go.Proofs.Tryz.prog 59 #[.pointer x0,.int .u8 x1] (fun (r:Value)=>r) (Ka x0 x1) :=
 KN [mkC JW JX [.P] [] (fun (t:Option Addr)=>Kt t) (fun (t:Option Addr)=>JZ t)] [0,5,7,8] [.V] [(0,.P x0),(1,.I .u8 x1)] .o Go.Proofs.Tryz.func59 rfl rfl ⟨rfl,rfl,trivial⟩ rfl (by kernel_rfl) (by kernel_rfl)
noncomputable def Ul:CalleeS Go.Proofs.Tryz.prog:=mkC W8 YD [.P,.I .u8] [.V] (fun (t:Option Addr × Int)=>Ka t.1 t.2) (fun (t:Option Addr × Int)=>Yc t.1 t.2)
def KS (x0:Option Addr) (x1:ByteArray):M (Int × Value):=do
 let Xx3←Kt x0
 let Xx5←nilP x0
 let Xx6←ldL ((Xx5).add 1)
 let Xx7←apS KU Xx6 x1
 let Xx8←nilP x0
 stV ((Xx8).add 1) ((Xx7:Sl).v)
 M.pure ((x1.size:Int),Value.nilIface)
theorem Wl (x0:Option Addr) (x1:ByteArray):Kn Go.Proofs.Tryz.prog 60 #[.pointer x0,.string x1] (fun (r:Int × Value)=>.tuple #[.int .i64 r.1,r.2]) (KS x0 x1) :=
 KN [mkC JW JX [.P] [] (fun (t:Option Addr)=>Kt t) (fun (t:Option Addr)=>JZ t)] [0,6,8,9] [.I .i64,.V] [(0,.P x0),(1,.S x1)] .o Go.Proofs.Tryz.func60 rfl rfl ⟨rfl,rfl,trivial⟩ rfl (by kernel_rfl) (by kernel_rfl)
noncomputable def JK:CalleeS Go.Proofs.Tryz.prog:=mkC WH WL [.P,.S] [.I .i64,.V] (fun (t:Option Addr × ByteArray)=>KS t.1 t.2) (fun (t:Option Addr × ByteArray)=>Wl t.1 t.2)
def ZJ (x0:Option Addr):M (ByteArray):=do
 let Xx3←nilP x0
 let Xx4←nilP x0
 let Xx5←ldL ((Xx3).add 1)
 let Xx6←ldL ((Xx4).add 1)
 let Xx7←uSD Xx5
 let Xx8←uStr KU Xx7 (Xx6.len:Int)
 M.pure Xx8
theorem XK (x0:Option Addr):Kn Go.Proofs.Tryz.prog 61 #[.pointer x0] (fun (r:ByteArray)=>.string r) (ZJ x0) :=
 KN [] [0,3,7,8] [.S] [(0,.P x0)] (.q .o (.q (.r [0,1,2,4,8,0,32,64,128,256,528,2047] [0,1,2,4,8,0,32,64,128,256,528,1024] [0,1,3,7,15,0,32,96,224,480,1023,2047] (.pu 0 (.pu 1 (.pu 2 (.pu 5 (.pu 6 (.pu 7 (.pu 3 (.pu 8 (.pu 9 (.st [10,11] (.on 4 (.on 10 (.pu 11 (.nx .dn))))))))))))))) .o)) Go.Proofs.Tryz.func61 rfl rfl ⟨rfl,trivial⟩ rfl (by kernel_rfl) (by kernel_rfl)
noncomputable def J7:CalleeS Go.Proofs.Tryz.prog:=mkC Y5 Y7 [.P] [.S] (fun (t:Option Addr)=>ZJ t) (fun (t:Option Addr)=>XK t)
def UU (self1:(Int)→M (ByteArray)) (C19:Int):M (ByteArray):=do
 self1 (IntKind.wrap .i64 (C19+1))
def Y9 (C10:Addr) (C11:Sl) (C12:Int) (self1:(Int)→M (ByteArray)):(Int)→M (ByteArray):=fun s=>match s with
 | Xx9=>do
  M.ite (decide (Xx9 < C12)) (do
   let Xx21←ixL C11 Xx9 1
   let Xx22←ldI .u8 Xx21
   let Xx24←M.ite (decide (Xx22 < 32)) (do
    M.pure true
    ) (do
    M.pure (decide (Xx22 > 126))
    )
   M.ite Xx24 (do
    let Xx26←KS (some C10) (⟨#[92,120]⟩:ByteArray)
    let Xx28←Zd (IntKind.wrap .i64 (iShr .u8 Xx22 4)) 16
    let Xx29←KS (some C10) Xx28
    let Xx30←Zd (IntKind.wrap .i64 (iAnd .u8 Xx22 15)) 16
    let Xx31←KS (some C10) Xx30
    UU self1 Xx9
    ) (do
    let Xx33←M.ite (Xx22 == 39) (do
     M.pure true
     ) (do
     M.pure (Xx22 == 92)
     )
    M.ite Xx33 (do
     let Xx35←Ka (some C10) 92
     let Xx36←Ka (some C10) Xx22
     UU self1 Xx9
     ) (do
     let Xx37←Ka (some C10) Xx22
     UU self1 Xx9
     )
    )
   ) (do
   let Xx39←Ka (some C10) 39
   let Xx41←ZJ (some C10)
   M.pure Xx41
   )
def Yd (x0:ByteArray):M (ByteArray):=do
 let Xx3←mkB ZQ (#[.pointer none,.slice none 0 0]:Array Value)
 let Xx5←Ka (some Xx3) 39
 let Xx8←s2b KU x0
 M.loop (Y9 Xx3 Xx8 (Xx8.len:Int)) 0
theorem KCl (x0:ByteArray):Kn Go.Proofs.Tryz.prog 131 #[.string x0] (fun (r:ByteArray)=>.string r) (Yd x0) :=
 KN [Ya,Ul,JK,J7] [] [.S] [(0,.S x0)] (.q .o (.q .o (.q .o (.q (.q .o (.b (.l [(3,.A),(8,.L),(9,.I .i64)] [(10,.I .i64)] (fun (t:Addr × Sl × Int)=>Y9 t.1 t.2.1 t.2.2) (fun self1=>.q .o (.q .o (.q .o (.j [(3,.A),(8,.L),(9,.I .i64),(10,.I .i64)] (fun (t:Addr × Sl × Int × Int)=>UU self1 t.2.2.2) .o))))))) .o)))) Go.Proofs.Tryz.func131 rfl rfl ⟨rfl,trivial⟩ rfl (by kernel_rfl) (by kernel_rfl)
noncomputable def KCm:CalleeS Go.Proofs.Tryz.prog:=mkC KBd KBi [.S] [.S] (fun (t:ByteArray)=>Yd t) (fun (t:ByteArray)=>KCl t)
def Jz (x0:Option Addr) (x1:Int):M (Unit):=do
 let Xx2←nilP x0
 let Xx3←nilP x0
 let Xx4←ldL ((Xx2).add 1)
 let Xx5←ldL ((Xx3).add 1)
 let Xx6←mnz KU (IntKind.wrap .i64 ((IntKind.wrap .i64 (2 * (Xx4.cap:Int)))+x1))
 chk (fun h:Heap=>(KO h ((Xx2).add 1)=some ((Xx4:Sl).v))∧(KO h ((Xx3).add 1)=some ((Xx5:Sl).v)))
 let Xx7←slL Xx6 0 (Xx5.len:Int) 1
 let Xx9←nilP x0
 let Xx10←ldL ((Xx9).add 1)
 let Xx11←cpL 1 Xx7 Xx10
 let Xx12←nilP x0
 stV ((Xx12).add 1) ((Xx7:Sl).v)
 M.pure ()
theorem X2 (x0:Option Addr) (x1:Int):Kn Go.Proofs.Tryz.prog 217 #[.pointer x0,.int .i64 x1] (fun (r:Unit)=>.tuple #[]) (Jz x0 x1) :=
 KN [KM8 WF #[3] 44 5 Go.Proofs.Tryz.func235 (by kernel_rfl) (by kernel_rfl) (by kernel_rfl) (by kernel_rfl) un44] [0,5,14,21,26] [] [(0,.P x0),(1,.I .i64 x1)] (.q (.r [0,1,2,4,8,16,0,96,128,0,512,1024,2048,4096,8448,32767] [0,1,2,4,8,16,0,96,128,0,512,1024,2048,4096,8448,16384] [0,1,3,7,15,31,0,127,255,0,512,1536,3584,7680,16383,32767] (.pu 0 (.pu 1 (.pu 2 (.pu 6 (.pu 9 (.pu 10 (.pu 11 (.pu 3 (.pu 4 (.pu 5 (.pu 7 (.pu 12 (.pu 13 (.st [14,15] (.on 8 (.pu 14 (.pu 15 (.nx .dn))))))))))))))))))) .o) Go.Proofs.Tryz.func217 rfl rfl ⟨rfl,rfl,trivial⟩ rfl (by kernel_rfl) (by kernel_rfl)
noncomputable def X3:CalleeS Go.Proofs.Tryz.prog:=mkC Xd Xg [.P,.I .i64] [] (fun (t:Option Addr × Int)=>Jz t.1 t.2) (fun (t:Option Addr × Int)=>X2 t.1 t.2)
def JP (x0:Option Addr) (x1:Int):M (Unit):=do
 let Xx2←Kt x0
 M.ite (decide (x1 < 0)) (do
  M.fail
  ) (do
  let Xx6←nilP x0
  let Xx7←nilP x0
  let Xx8←ldL ((Xx6).add 1)
  let Xx9←ldL ((Xx7).add 1)
  M.ite (decide ((IntKind.wrap .i64 ((Xx8.cap:Int) - (Xx9.len:Int))) < x1)) (do
   let Xx10←Jz x0 x1
   M.pure ()
   ) (do
   M.pure ()
   )
  )
theorem X4 (x0:Option Addr) (x1:Int):Kn Go.Proofs.Tryz.prog 189 #[.pointer x0,.int .i64 x1] (fun (r:Unit)=>.tuple #[]) (JP x0 x1) :=
 KN [mkC JW JX [.P] [] (fun (t:Option Addr)=>Kt t) (fun (t:Option Addr)=>JZ t),X3] [0,4,9,14,22] [] [(0,.P x0),(1,.I .i64 x1)] (.q .o (.q .o (.q (.r [0,1,2,4,8,0,32,64,128,256,528,0,3072] [0,1,2,4,8,0,32,64,128,256,528,0,3072] [0,1,3,7,15,0,32,96,224,480,1023,0,4095] (.pu 0 (.pu 1 (.pu 2 (.pu 5 (.pu 6 (.pu 7 (.pu 11 (.pu 3 (.pu 4 (.pu 8 (.pu 9 (.pu 10 (.pu 12 (.st [10,12] .dn))))))))))))))) .o))) Go.Proofs.Tryz.func189 rfl rfl ⟨rfl,rfl,trivial⟩ rfl (by kernel_rfl) (by kernel_rfl)
noncomputable def X5:CalleeS Go.Proofs.Tryz.prog:=mkC Xc Xf [.P,.I .i64] [] (fun (t:Option Addr × Int)=>JP t.1 t.2) (fun (t:Option Addr × Int)=>X4 t.1 t.2)
end Gx
namespace Gx
open Go
set_option linter.unusedVariables false
set_option maxRecDepth 100000
def Ye (C43:ByteArray) (C44:Addr) (C45:Sl) (C46:Int) (self2:(Int)→M (ByteArray)):(Int)→M (ByteArray):=fun s=>match s with
 | Xx42=>do
  M.ite (decide (Xx42 < C46)) (do
   let Xx52←ixL C45 Xx42 1
   let Xx53←ldS Xx52
   let Xx55←KS (some C44) C43
   let Xx56←KS (some C44) Xx53
   self2 (IntKind.wrap .i64 (Xx42+1))
   ) (do
   let Xx58←ZJ (some C44)
   M.pure Xx58
   )
def Yf (C18:Sl) (C19:ByteArray) (C20:Sl) (C21:Int) (self1:(Int × Int)→M (ByteArray)):(Int × Int)→M (ByteArray):=fun s=>match s with
 | (Xx16,Xx17)=>do
  M.ite (decide (Xx17 < C21)) (do
   let Xx27←ixL C20 Xx17 1
   let Xx28←ldS Xx27
   M.ite (decide ((Xx28.size:Int) > (IntKind.wrap .i64 (9223372036854775807 - Xx16)))) (do
    M.fail
    ) (do
    self1 (IntKind.wrap .i64 (Xx16+(Xx28.size:Int)),IntKind.wrap .i64 (Xx17+1))
    )
   ) (do
   let Xx32←mkB ZQ (#[.pointer none,.slice none 0 0]:Array Value)
   let Xx34←JP (some Xx32) Xx16
   let Xx36←ixL C18 0 1
   let Xx37←ldS Xx36
   let Xx38←KS (some Xx32) Xx37
   let Xx41←slL C18 1 C18.len 1
   M.loop (Ye C19 Xx32 Xx41 (Xx41.len:Int)) 0
   )
def VT (C12:Sl) (C13:ByteArray) (Xx11:Int):M (ByteArray):=do
 M.loop (Yf C12 C13 C12 (C12.len:Int)) (Xx11,0)
def WM (x0:Sl) (x1:ByteArray):M (ByteArray):=do
 M.ite ((x0.len:Int) == 0) (do
  M.pure ByteArray.empty
  ) (do
  M.ite ((x0.len:Int) == 1) (do
   let Xx8←ixL x0 0 1
   let Xx9←ldS Xx8
   M.pure Xx9
   ) (do
   M.ite (decide ((x1.size:Int) > 0)) (do
    let Xx62←pQuo .i64 9223372036854775807 (IntKind.wrap .i64 ((x0.len:Int) - 1))
    M.ite (decide ((x1.size:Int) ≥ Xx62)) (do
     M.fail
     ) (do
     VT x0 x1 (IntKind.wrap .i64 (0+(IntKind.wrap .i64 ((x1.size:Int) * (IntKind.wrap .i64 ((x0.len:Int) - 1))))))
     )
    ) (do
    VT x0 x1 0
    )
   )
  )
theorem KBm (x0:Sl) (x1:ByteArray):Kn Go.Proofs.Tryz.prog 132 #[(x0:Sl).v,.string x1] (fun (r:ByteArray)=>.string r) (WM x0 x1) :=
 KN [X5,JK,J7] [] [.S] [(0,.L x0),(1,.S x1)] (.q .o (.q .o (.q .o (.q .o (.j [(0,.L),(1,.S),(5,.I .i64)] (fun (t:Sl × ByteArray × Int)=>VT t.1 t.2.1 t.2.2) (.q (.q .o (.b (.l [(0,.L),(1,.S),(39,.L),(40,.I .i64)] [(5,.I .i64),(41,.I .i64)] (fun (t:Sl × ByteArray × Sl × Int)=>Yf t.1 t.2.1 t.2.2.1 t.2.2.2) (fun _=>.o)))) (.q .o (.q .o (.q .o (.q (.q .o (.b (.l [(1,.S),(8,.A),(63,.L),(64,.I .i64)] [(65,.I .i64)] (fun (t:ByteArray × Addr × Sl × Int)=>Ye t.1 t.2.1 t.2.2.1 t.2.2.2) (fun _=>.o)))) .o)))))))))) Go.Proofs.Tryz.func132 rfl rfl ⟨rfl,rfl,trivial⟩ rfl (by kernel_rfl) (by kernel_rfl)
noncomputable def KBn:CalleeS Go.Proofs.Tryz.prog:=mkC KAm KAq [.L,.S] [.S] (fun (t:Sl × ByteArray)=>WM t.1 t.2) (fun (t:Sl × ByteArray)=>KBm t.1 t.2)
def VU (self1:(Sl × Int)→M (ByteArray)) (C56:Int) (Xx51:Sl):M (ByteArray):=do
 self1 (Xx51,IntKind.wrap .i64 (C56+1))
def Xj (C44:Int) (C45:Addr) (C46:Sl) (C47:Int) (self1:(Sl × Int)→M (ByteArray)):(Sl × Int)→M (ByteArray):=fun s=>match s with
 | (Xx42,Xx43)=>do
  M.ite (decide (Xx43 < C47)) (do
   let Xx58←ixL C46 Xx43 4
   let Xx59←ldG 4 Xx58
   let Xx60←mkB KI (#[.int .i64 0,.int .i64 0,.string ByteArray.empty,.slice none 0 0]:Array Value)
   M.need (Xx59.size=4)
   stG Xx60 Xx59
   let Xx63←ldG 4 Xx60
   let Xx64←N7 Go.Proofs.Tryz.prog YA #[.agg Xx63,.int .i64 (IntKind.wrap .i64 (C44+1))] (fun r:ByteArray=>.string r)
   let Xx66←ldI .i64 ((C45).add 0)
   let Xx67←M.ite (Xx66 == 5) (do
    M.pure ((Int.tmod Xx43 2) == 1)
    ) (do
    M.pure false
    )
   M.ite Xx67 (do
    let Xx68←ixL Xx42 (IntKind.wrap .i64 ((Xx42.len:Int) - 1)) 1
    let Xx69←ldS Xx68
    let Xx70←sCat (⟨#[58,32]⟩:ByteArray) Xx64
    let Xx71←sCat Xx69 Xx70
    let Xx72←ixL Xx42 (IntKind.wrap .i64 ((Xx42.len:Int) - 1)) 1
    stV Xx72 (.string Xx71)
    VU self1 Xx43 Xx42
    ) (do
    let Xx74←bdL XI 1 #[.string Xx64]
    let Xx75←apL XI 1 16 (#[.string ByteArray.empty]:Array Value) Xx42 Xx74
    VU self1 Xx43 Xx75
    )
   ) (do
   let Xx77←WM Xx42 (⟨#[44,32]⟩:ByteArray)
   let Xx80←ldI .i64 ((C45).add 0)
   M.ite (Xx80 == 5) (do
    let Xx82←sCat (⟨#[123]⟩:ByteArray) Xx77
    let Xx83←sCat Xx82 (⟨#[125]⟩:ByteArray)
    M.pure Xx83
    ) (do
    let Xx85←sCat (⟨#[91]⟩:ByteArray) Xx77
    let Xx86←sCat Xx85 (⟨#[93]⟩:ByteArray)
    M.pure Xx86
    )
   )
def VV (C36:Int) (C37:Addr) (Xx35:Bool):M (ByteArray):=do
 M.ite Xx35 (do
  let Xx41←ldL ((C37).add 3)
  M.loop (Xj C36 C37 Xx41 (Xx41.len:Int)) (Sl.nil,0)
  ) (do
  M.pure (⟨#[63]⟩:ByteArray)
  )
def YQ (x0:Array Value) (x1:Int):M (ByteArray):=do
 let Xx2←mkB KI x0
 M.ite (decide (x1 > 8)) (do
  M.pure (⟨#[63]⟩:ByteArray)
  ) (do
  let Xx8←ldI .i64 ((Xx2).add 0)
  M.ite (Xx8 == 1) (do
   let Xx11←ldI .i64 ((Xx2).add 1)
   let Xx12←Xi Xx11
   M.pure Xx12
   ) (do
   M.ite (Xx8 == 2) (do
    let Xx15←ldS ((Xx2).add 2)
    let Xx16←Yd Xx15
    M.pure Xx16
    ) (do
    M.ite (Xx8 == 3) (do
     let Xx20←ldI .i64 ((Xx2).add 1)
     M.ite (Xx20 == 1) (do
      M.pure (⟨#[116,114,117,101]⟩:ByteArray)
      ) (do
      M.pure (⟨#[102,97,108,115,101]⟩:ByteArray)
      )
     ) (do
     M.ite (Xx8 == 6) (do
      let Xx25←ldI .i64 ((Xx2).add 1)
      let Xx26←Xi Xx25
      let Xx27←sCat (⟨#[118,91]⟩:ByteArray) Xx26
      let Xx28←sCat Xx27 (⟨#[93]⟩:ByteArray)
      M.pure Xx28
      ) (do
      M.ite (Xx8 == 7) (do
       let Xx31←ldI .i64 ((Xx2).add 1)
       let Xx32←Xi Xx31
       let Xx33←sCat (⟨#[101,91]⟩:ByteArray) Xx32
       let Xx34←sCat Xx33 (⟨#[93]⟩:ByteArray)
       M.pure Xx34
       ) (do
       M.ite (Xx8 == 4) (do
        VV x1 Xx2 (Xx8 == 4)
        ) (do
        VV x1 Xx2 (Xx8 == 5)
        )
       )
      )
     )
    )
   )
  )
theorem KAA (x0:Array Value) (x1:Int):Kn Go.Proofs.Tryz.prog 98 #[.agg x0,.int .i64 x1] (fun (r:ByteArray)=>.string r) (YQ x0 x1) :=
 KN [KGJ,KCm,KBn,mkC YA qa [.G,.I .i64] [.S] (fun (t:Array Value × Int)=>N7 Go.Proofs.Tryz.prog YA #[.agg t.1,.int .i64 t.2] (fun r:ByteArray=>.string r)) (fun (t:Array Value × Int)=>Vr)] [] [.S] [(0,.G x0),(1,.I .i64 x1)] (.q .o (.q .o (.q (.q .o (.b (.q .o (.q .o (.q .o (.q .o (.q .o (.q .o (.q .o (.q .o (.q .o (.q .o (.q .o (.j [(1,.I .i64),(2,.A),(43,.B)] (fun (t:Int × Addr × Bool)=>VV t.1 t.2.1 t.2.2) .o)))))))))))))) (.q .o (.q (.q .o (.b (.l [(1,.I .i64),(2,.A),(47,.L),(48,.I .i64)] [(5,.L),(49,.I .i64)] (fun (t:Int × Addr × Sl × Int)=>Xj t.1 t.2.1 t.2.2.1 t.2.2.2) (fun self1=>.q .o (.q .o (.q .o (.j [(1,.I .i64),(2,.A),(47,.L),(48,.I .i64),(49,.I .i64),(5,.L)] (fun (t:Int × Addr × Sl × Int × Int × Sl)=>VU self1 t.2.2.2.2.1 t.2.2.2.2.2) .o))))))) .o))))) Go.Proofs.Tryz.func98 rfl rfl ⟨rfl,rfl,trivial⟩ rfl (by kernel_rfl) (by kernel_rfl)
noncomputable def KDq:CalleeS Go.Proofs.Tryz.prog:=mkC YA qa [.G,.I .i64] [.S] (fun (t:Array Value × Int)=>YQ t.1 t.2) (fun (t:Array Value × Int)=>KAA t.1 t.2)
def YR (x0:Array Value):M (ByteArray):=do
 let Xx2←mkB KI x0
 let Xx4←ldG 4 Xx2
 let Xx5←YQ Xx4 1
 M.pure Xx5
theorem KDr (x0:Array Value):Kn Go.Proofs.Tryz.prog 50 #[.agg x0] (fun (r:ByteArray)=>.string r) (YR x0) :=
 KN [KDq] [] [.S] [(0,.G x0)] .o Go.Proofs.Tryz.func50 rfl rfl ⟨rfl,trivial⟩ rfl (by kernel_rfl) (by kernel_rfl)
noncomputable def KDs:CalleeS Go.Proofs.Tryz.prog:=mkC KCa KCg [.G] [.S] (fun (t:Array Value)=>YR t) (fun (t:Array Value)=>KDr t)
def GM (x0:Int):M (Array Value):=do
 let Xx2←mkB KI (#[.int .i64 0,.int .i64 0,.string ByteArray.empty,.slice none 0 0]:Array Value)
 M.need ((#[.int .i64 1,.int .i64 x0,.string ByteArray.empty,.slice none 0 0]:Array Value).size=4)
 stG Xx2 (#[.int .i64 1,.int .i64 x0,.string ByteArray.empty,.slice none 0 0]:Array Value)
 let Rr5←ldG 4 Xx2
 M.pure Rr5
theorem KAv (x0:Int):Kn Go.Proofs.Tryz.prog 51 #[.int .i64 x0] (fun (r:Array Value)=>.agg r) (GM x0) :=
 KN [] [] [.G] [(0,.I .i64 x0)] .o Go.Proofs.Tryz.func51 rfl rfl ⟨rfl,trivial⟩ rfl (by kernel_rfl) (by kernel_rfl)
noncomputable def KEl:CalleeS Go.Proofs.Tryz.prog:=mkC KDf z6 [.I .i64] [.G] (fun (t:Int)=>GM t) (fun (t:Int)=>KAv t)
def GN (x0:ByteArray):M (Array Value):=do
 let Xx2←mkB KI (#[.int .i64 0,.int .i64 0,.string ByteArray.empty,.slice none 0 0]:Array Value)
 M.need ((#[.int .i64 2,.int .i64 0,.string x0,.slice none 0 0]:Array Value).size=4)
 stG Xx2 (#[.int .i64 2,.int .i64 0,.string x0,.slice none 0 0]:Array Value)
 let Rr5←ldG 4 Xx2
 M.pure Rr5
theorem KAw (x0:ByteArray):Kn Go.Proofs.Tryz.prog 52 #[.string x0] (fun (r:Array Value)=>.agg r) (GN x0) :=
 KN [] [] [.G] [(0,.S x0)] .o Go.Proofs.Tryz.func52 rfl rfl ⟨rfl,trivial⟩ rfl (by kernel_rfl) (by kernel_rfl)
noncomputable def KEm:CalleeS Go.Proofs.Tryz.prog:=mkC KDg z7 [.S] [.G] (fun (t:ByteArray)=>GN t) (fun (t:ByteArray)=>KAw t)
def Gc (x0:Array Value):M (ByteArray):=do
 let Xx2←mkB KP x0
 let Xx5←ldG 4 Xx2
 let Xx6←VS Xx5
 M.ite (Xx6 != 0) (do
  M.pure ByteArray.empty
  ) (do
  let Xx9←ldI .i64 ((Xx2).add 0)
  M.ite (Xx9 == 2) (do
   let Xx11←ldI .i64 ((Xx2).add 2)
   let Xx12←GM Xx11
   let Xx13←YR Xx12
   M.pure Xx13
   ) (do
   let Xx15←ldI .i64 ((Xx2).add 0)
   M.ite (Xx15 == 3) (do
    let Xx17←ldS ((Xx2).add 1)
    let Xx18←GN Xx17
    let Xx19←YR Xx18
    M.pure Xx19
    ) (do
    let Xx21←ldS ((Xx2).add 1)
    M.pure Xx21
    )
   )
  )
theorem KGK (x0:Array Value):Kn Go.Proofs.Tryz.prog 20 #[.agg x0] (fun (r:ByteArray)=>.string r) (Gc x0) :=
 KN [Nr,KDs,KEl,KEm] [] [.S] [(0,.G x0)] .o Go.Proofs.Tryz.func20 rfl rfl ⟨rfl,trivial⟩ rfl (by kernel_rfl) (by kernel_rfl)
noncomputable def KB5:CalleeS Go.Proofs.Tryz.prog:=mkC KEe KEi [.G] [.S] (fun (t:Array Value)=>Gc t) (fun (t:Array Value)=>KGK t)
def Jj (x0:Int):M (Int):=do
 M.ite (decide (x0 < 0)) (do
  M.pure (IntKind.wrap .u64 (0 - (IntKind.wrap .u64 x0)))
  ) (do
  M.pure (IntKind.wrap .u64 x0)
  )
theorem qk (x0:Int):Kn Go.Proofs.Tryz.prog 200 #[.int .i64 x0] (fun (r:Int)=>.int .u64 r) (Jj x0) :=
 KN [] [] [.I .u64] [(0,.I .i64 x0)] .o Go.Proofs.Tryz.func200 rfl rfl ⟨rfl,trivial⟩ rfl (by kernel_rfl) (by kernel_rfl)
noncomputable def ql:CalleeS Go.Proofs.Tryz.prog:=mkC NU Nd [.I .i64] [.I .u64] (fun (t:Int)=>Jj t) (fun (t:Int)=>qk t)
def Um (self1:(Int × Sl)→M (Sl)):(Int × Sl)→M (Sl):=fun s=>match s with
 | (Xx6,Xx7)=>do
  let Xx11←M.ite (decide (Xx6 > 0)) (do
   M.pure true
   ) (do
   M.pure ((Xx7.len:Int) == 0)
   )
  M.ite Xx11 (do
   let Xx13←bdL Vo 1 #[.int .i64 (IntKind.wrap .i64 (Int.tmod Xx6 10))]
   let Xx14←apL Vo 1 8 (#[.int .i64 0]:Array Value) Xx13 Xx7
   self1 (IntKind.wrap .u64 (Int.tdiv Xx6 10),Xx14)
   ) (do
   M.pure Xx7
   )
def Jr (x0:Int):M (Sl):=do
 let Xx3←Jj x0
 M.loop Um (Xx3,Sl.nil)
theorem NC (x0:Int):Kn Go.Proofs.Tryz.prog 151 #[.int .i64 x0] (fun (r:Sl)=>(r:Sl).v) (Jr x0) :=
 KN [ql] [] [.L] [(0,.I .i64 x0)] (.q .o (.q .o (.q .o (.q (.b (.l [] [(3,.I .u64),(4,.L)] (fun (t:Unit)=>Um) (fun _=>.o))) .o)))) Go.Proofs.Tryz.func151 rfl rfl ⟨rfl,trivial⟩ rfl (by kernel_rfl) (by kernel_rfl)
noncomputable def ND:CalleeS Go.Proofs.Tryz.prog:=mkC GE GH [.I .i64] [.L] (fun (t:Int)=>Jr t) (fun (t:Int)=>NC t)
def VE (C11:Sl) (self1:(ByteArray × Int)→M (ByteArray)):(ByteArray × Int)→M (ByteArray):=fun s=>match s with
 | (Xx9,Xx10)=>do
  M.ite (decide (Xx10 < (C11.len:Int))) (do
   let Xx16←ixL C11 Xx10 1
   let Xx17←ldI .i64 Xx16
   let Xx18←bdL KU 1 #[.int .u8 (IntKind.wrap .u8 (IntKind.wrap .i64 (48+Xx17)))]
   let Xx19←b2s Xx18
   let Xx20←sCat Xx9 Xx19
   self1 (Xx20,IntKind.wrap .i64 (Xx10+1))
   ) (do
   M.pure Xx9
   )
def Ja (C4:Int) (Xx3:ByteArray):M (ByteArray):=do
 let Xx6←Jr C4
 M.loop (VE Xx6) (Xx3,0)
def JL (x0:Int):M (ByteArray):=do
 M.ite (decide (x0 < 0)) (do
  Ja x0 (⟨#[45]⟩:ByteArray)
  ) (do
  Ja x0 ByteArray.empty
  )
theorem qm (x0:Int):Kn Go.Proofs.Tryz.prog 111 #[.int .i64 x0] (fun (r:ByteArray)=>.string r) (JL x0) :=
 KN [ND] [] [.S] [(0,.I .i64 x0)] (.q .o (.q .o (.q .o (.j [(0,.I .i64),(3,.S)] (fun (t:Int × ByteArray)=>Ja t.1 t.2) (.q .o (.q (.q .o (.b (.l [(4,.L)] [(3,.S),(5,.I .i64)] (fun (t:Sl)=>VE t) (fun _=>.o)))) .o)))))) Go.Proofs.Tryz.func111 rfl rfl ⟨rfl,trivial⟩ rfl (by kernel_rfl) (by kernel_rfl)
noncomputable def qn:CalleeS Go.Proofs.Tryz.prog:=mkC NT Nc [.I .i64] [.S] (fun (t:Int)=>JL t) (fun (t:Int)=>qm t)
def Zp (self1:(Sl × Int)→M (ByteArray)) (C14:Int) (Xx12:Sl):M (ByteArray):=do
 self1 (Xx12,IntKind.wrap .i64 (C14+1))
def U1 (C8:ByteArray) (self1:(Sl × Int)→M (ByteArray)):(Sl × Int)→M (ByteArray):=fun s=>match s with
 | (Xx6,Xx7)=>do
  M.ite (decide (Xx7 < (C8.size:Int))) (do
   let Xx16←ixS C8 Xx7
   let Xx18←M.ite (Xx16 == 39) (do
    M.pure true
    ) (do
    M.pure (Xx16 == 92)
    )
   M.ite Xx18 (do
    let Xx19←bdL KU 2 #[.int .u8 92,.int .u8 Xx16]
    let Xx20←apL KU 1 1 (#[.int .u8 0]:Array Value) Xx6 Xx19
    Zp self1 Xx7 Xx20
    ) (do
    let Xx22←M.ite (decide (Xx16 < 32)) (do
     M.pure true
     ) (do
     M.pure (decide (Xx16 > 126))
     )
    M.ite Xx22 (do
     let Xx23←ixS (⟨#[48,49,50,51,52,53,54,55,56,57,97,98,99,100,101,102]⟩:ByteArray) (IntKind.wrap .u8 (Int.tdiv Xx16 16))
     let Xx24←ixS (⟨#[48,49,50,51,52,53,54,55,56,57,97,98,99,100,101,102]⟩:ByteArray) (Int.tmod Xx16 16)
     let Xx25←bdL KU 4 #[.int .u8 92,.int .u8 120,.int .u8 Xx23,.int .u8 Xx24]
     let Xx26←apL KU 1 1 (#[.int .u8 0]:Array Value) Xx6 Xx25
     Zp self1 Xx7 Xx26
     ) (do
     let Xx27←bdL KU 1 #[.int .u8 Xx16]
     let Xx28←apL KU 1 1 (#[.int .u8 0]:Array Value) Xx6 Xx27
     Zp self1 Xx7 Xx28
     )
    )
   ) (do
   let Xx30←bdL KU 1 #[.int .u8 39]
   let Xx31←apL KU 1 1 (#[.int .u8 0]:Array Value) Xx6 Xx30
   let Xx32←b2s Xx31
   M.pure Xx32
   )
def J8 (x0:ByteArray):M (ByteArray):=do
 let Xx3←bdL KU 1 #[.int .u8 39]
 M.loop (U1 x0) (Xx3,0)
theorem Nt (x0:ByteArray):Kn Go.Proofs.Tryz.prog 112 #[.string x0] (fun (r:ByteArray)=>.string r) (J8 x0) :=
 KN [] [] [.S] [(0,.S x0)] (.q .o (.q .o (.q (.q .o (.b (.l [(0,.S)] [(3,.L),(4,.I .i64)] (fun (t:ByteArray)=>U1 t) (fun self1=>.q .o (.q (.b (.q .o (.b (.q .o (.q .o (.q .o (.q (.r [0,0,2,4,0,16,32,72,129,511] [0,0,2,4,0,16,32,72,129,257] [0,0,2,6,0,16,48,126,255,511] (.pu 0 (.pu 1 (.pu 2 (.pu 3 (.pu 4 (.pu 5 (.pu 6 (.st [0,1,2,3,4,5,6,7,8,9] (.on 7 (.on 8 (.pu 9 (.nx .dn))))))))))))) .o))))))) (.j [(0,.S),(4,.I .i64),(3,.L)] (fun (t:ByteArray × Int × Sl)=>Zp self1 t.2.1 t.2.2) .o)))))) .o))) Go.Proofs.Tryz.func112 rfl rfl ⟨rfl,trivial⟩ rfl (by kernel_rfl) (by kernel_rfl)
noncomputable def Nu:CalleeS Go.Proofs.Tryz.prog:=mkC Gj Gv [.S] [.S] (fun (t:ByteArray)=>J8 t) (fun (t:ByteArray)=>Nt t)
def JM (x0:Array Value) (x1:Int):M (ByteArray):=do
 let Xx2←mkB KI x0
 M.ite (decide (x1 ≥ 8)) (do
  M.pure (⟨#[63]⟩:ByteArray)
  ) (do
  let Xx8←ldI .i64 ((Xx2).add 0)
  M.ite (Xx8 == 1) (do
   let Xx11←ldI .i64 ((Xx2).add 1)
   let Xx12←JL Xx11
   M.pure Xx12
   ) (do
   M.ite (Xx8 == 2) (do
    let Xx15←ldS ((Xx2).add 2)
    let Xx16←J8 Xx15
    M.pure Xx16
    ) (do
    M.ite (Xx8 == 3) (do
     let Xx20←ldI .i64 ((Xx2).add 1)
     M.ite (Xx20 == 1) (do
      M.pure (⟨#[116,114,117,101]⟩:ByteArray)
      ) (do
      M.pure (⟨#[102,97,108,115,101]⟩:ByteArray)
      )
     ) (do
     M.ite (Xx8 == 6) (do
      let Xx25←ldI .i64 ((Xx2).add 1)
      let Xx26←JL Xx25
      let Xx27←sCat (⟨#[118,91]⟩:ByteArray) Xx26
      let Xx28←sCat Xx27 (⟨#[93]⟩:ByteArray)
      M.pure Xx28
      ) (do
      M.ite (Xx8 == 7) (do
       let Xx31←ldI .i64 ((Xx2).add 1)
       let Xx32←JL Xx31
       let Xx33←sCat (⟨#[101,91]⟩:ByteArray) Xx32
       let Xx34←sCat Xx33 (⟨#[93]⟩:ByteArray)
       M.pure Xx34
       ) (do
       M.ite (Xx8 == 4) (do
        let Xx37←ldL ((Xx2).add 3)
        let Xx38←N7 Go.Proofs.Tryz.prog Jy #[(Xx37:Sl).v,.int .i64 x1,.string (⟨#[44,32]⟩:ByteArray),.string (⟨#[44,32]⟩:ByteArray)] (fun r:ByteArray=>.string r)
        let Xx39←sCat (⟨#[91]⟩:ByteArray) Xx38
        let Xx40←sCat Xx39 (⟨#[93]⟩:ByteArray)
        M.pure Xx40
        ) (do
        M.ite (Xx8 == 5) (do
         let Xx43←ldL ((Xx2).add 3)
         let Xx44←N7 Go.Proofs.Tryz.prog Jy #[(Xx43:Sl).v,.int .i64 x1,.string (⟨#[58,32]⟩:ByteArray),.string (⟨#[44,32]⟩:ByteArray)] (fun r:ByteArray=>.string r)
         let Xx45←sCat (⟨#[123]⟩:ByteArray) Xx44
         let Xx46←sCat Xx45 (⟨#[125]⟩:ByteArray)
         M.pure Xx46
         ) (do
         M.pure (⟨#[63]⟩:ByteArray)
         )
        )
       )
      )
     )
    )
   )
  )
theorem Yy (x0:Array Value) (x1:Int):Kn Go.Proofs.Tryz.prog 71 #[.agg x0,.int .i64 x1] (fun (r:ByteArray)=>.string r) (JM x0 x1) :=
 KN [qn,Nu,mkC Jy Gy [.L,.I .i64,.S,.S] [.S] (fun (t:Sl × Int × ByteArray × ByteArray)=>N7 Go.Proofs.Tryz.prog Jy #[(t.1:Sl).v,.int .i64 t.2.1,.string t.2.2.1,.string t.2.2.2] (fun r:ByteArray=>.string r)) (fun (t:Sl × Int × ByteArray × ByteArray)=>Vr)] [] [.S] [(0,.G x0),(1,.I .i64 x1)] .o Go.Proofs.Tryz.func71 rfl rfl ⟨rfl,rfl,trivial⟩ rfl (by kernel_rfl) (by kernel_rfl)
noncomputable def qo:CalleeS Go.Proofs.Tryz.prog:=mkC UI YX [.G,.I .i64] [.S] (fun (t:Array Value × Int)=>JM t.1 t.2) (fun (t:Array Value × Int)=>Yy t.1 t.2)
def Jk (x0:Array Value):M (ByteArray):=do
 let Xx2←mkB KI x0
 let Xx4←ldG 4 Xx2
 let Xx5←JM Xx4 0
 M.pure Xx5
theorem qp (x0:Array Value):Kn Go.Proofs.Tryz.prog 34 #[.agg x0] (fun (r:ByteArray)=>.string r) (Jk x0) :=
 KN [qo] [] [.S] [(0,.G x0)] .o Go.Proofs.Tryz.func34 rfl rfl ⟨rfl,trivial⟩ rfl (by kernel_rfl) (by kernel_rfl)
noncomputable def qq:CalleeS Go.Proofs.Tryz.prog:=mkC NW Nh [.G] [.S] (fun (t:Array Value)=>Jk t) (fun (t:Array Value)=>qp t)
def Jl (x0:Array Value):M (ByteArray):=do
 let Xx2←mkB KP x0
 let Xx5←ldG 4 Xx2
 let Xx6←Z1 Xx5
 M.ite (Xx6 != 0) (do
  M.pure ByteArray.empty
  ) (do
  let Xx10←ldI .i64 ((Xx2).add 0)
  M.ite (Xx10 == 2) (do
   let Xx13←ldI .i64 ((Xx2).add 2)
   let Xx14←VQ Xx13
   let Xx15←Jk Xx14
   M.pure Xx15
   ) (do
   M.ite (Xx10 == 3) (do
    let Xx18←ldS ((Xx2).add 1)
    let Xx19←VR Xx18
    let Xx20←Jk Xx19
    M.pure Xx20
    ) (do
    let Xx22←ldS ((Xx2).add 1)
    M.pure Xx22
    )
   )
  )
theorem qt (x0:Array Value):Kn Go.Proofs.Tryz.prog 24 #[.agg x0] (fun (r:ByteArray)=>.string r) (Jl x0) :=
 KN [VC,qq,zW,zY] [] [.S] [(0,.G x0)] .o Go.Proofs.Tryz.func24 rfl rfl ⟨rfl,trivial⟩ rfl (by kernel_rfl) (by kernel_rfl)
noncomputable def Yz:CalleeS Go.Proofs.Tryz.prog:=mkC NX Ni [.G] [.S] (fun (t:Array Value)=>Jl t) (fun (t:Array Value)=>qt t)
def WN (self1:(Int × Int)→M (ByteArray)) (C19:Int) (Xx15:Int):M (ByteArray):=do
 self1 (Xx15,IntKind.wrap .i64 (C19+1))
def WO (self1:(Int × Int)→M (ByteArray)) (C29:Addr) (C30:Addr) (C33:Int):M (ByteArray):=do
 let Xx35←ldG 4 C30
 let Xx36←Gc Xx35
 let Xx37←KS (some C29) Xx36
 let Xx38←ldI .i64 ((C30).add 0)
 WN self1 C33 Xx38
def GO (C9:Addr) (C10:Sl) (C11:Int) (self1:(Int × Int)→M (ByteArray)):(Int × Int)→M (ByteArray):=fun s=>match s with
 | (Xx7,Xx8)=>do
  M.ite (decide (Xx8 < C11)) (do
   let Xx21←ixL C10 Xx8 4
   let Xx22←ldG 4 Xx21
   let Xx23←mkB KP (#[.int .i64 0,.string ByteArray.empty,.int .i64 0,.int .i64 0]:Array Value)
   M.need (Xx22.size=4)
   stG Xx23 Xx22
   let Xx27←ldG 4 Xx23
   let Xx28←VS Xx27
   M.ite (Xx28 != 0) (do
    WN self1 Xx8 Xx7
    ) (do
    let Xx40←M.ite (Xx7 != 4) (do
     let Xx41←ldI .i64 ((Xx23).add 0)
     M.pure (Xx41 != 4)
     ) (do
     M.pure false
     )
    M.ite Xx40 (do
     let Xx42←Ka (some C9) 32
     WO self1 C9 Xx23 Xx8
     ) (do
     WO self1 C9 Xx23 Xx8
     )
    )
   ) (do
   let Xx44←ZJ (some C9)
   M.pure Xx44
   )
def GP (x0:Sl):M (ByteArray):=do
 let Xx3←mkB ZQ (#[.pointer none,.slice none 0 0]:Array Value)
 M.loop (GO Xx3 x0 (x0.len:Int)) (4,0)
theorem KEn (x0:Sl):Kn Go.Proofs.Tryz.prog 25 #[(x0:Sl).v] (fun (r:ByteArray)=>.string r) (GP x0) :=
 KN [KB5,Nr,Ul,JK,J7] [] [.S] [(0,.L x0)] (.q .o (.q .o (.q .o (.q (.q .o (.b (.l [(3,.A),(7,.L),(8,.I .i64)] [(4,.I .i64),(9,.I .i64)] (fun (t:Addr × Sl × Int)=>GO t.1 t.2.1 t.2.2) (fun self1=>.q .o (.q .o (.q (.b (.q .o (.q .o (.q .o (.j [(3,.A),(6,.A),(7,.L),(8,.I .i64),(9,.I .i64)] (fun (t:Addr × Addr × Sl × Int × Int)=>WO self1 t.1 t.2.1 t.2.2.2.2) .o))))) (.j [(3,.A),(7,.L),(8,.I .i64),(9,.I .i64),(4,.I .i64)] (fun (t:Addr × Sl × Int × Int × Int)=>WN self1 t.2.2.2.1 t.2.2.2.2) .o))))))) .o)))) Go.Proofs.Tryz.func25 rfl rfl ⟨rfl,trivial⟩ rfl (by kernel_rfl) (by kernel_rfl)
noncomputable def KEo:CalleeS Go.Proofs.Tryz.prog:=mkC KDc KDi [.L] [.S] (fun (t:Sl)=>GP t) (fun (t:Sl)=>KEn t)
def JQ (self1:(ByteArray × Int × Int)→M (ByteArray)) (C16:Int) (Xx13:ByteArray) (Xx14:Int):M (ByteArray):=do
 self1 (Xx13,Xx14,IntKind.wrap .i64 (C16+1))
def JR (self1:(ByteArray × Int × Int)→M (ByteArray)) (C23:Sl) (C24:Int) (Xx22:ByteArray):M (ByteArray):=do
 let Xx26←ixL C23 C24 4
 let Xx27←ldG 4 Xx26
 let Xx28←Jl Xx27
 let Xx29←sCat Xx22 Xx28
 let Xx30←ixL C23 C24 4
 let Xx31←ldI .i64 ((Xx30).add 0)
 JQ self1 C24 Xx29 Xx31
def U2 (C9:Sl) (self1:(ByteArray × Int × Int)→M (ByteArray)):(ByteArray × Int × Int)→M (ByteArray):=fun s=>match s with
 | (Xx6,Xx7,Xx8)=>do
  M.ite (decide (Xx8 < (C9.len:Int))) (do
   let Xx19←ixL C9 Xx8 4
   let Xx20←ldG 4 Xx19
   let Xx21←Z1 Xx20
   M.ite (Xx21 != 0) (do
    JQ self1 Xx8 Xx6 Xx7
    ) (do
    let Xx33←M.ite (Xx7 != 4) (do
     let Xx34←ixL C9 Xx8 4
     let Xx35←ldI .i64 ((Xx34).add 0)
     M.pure (Xx35 != 4)
     ) (do
     M.pure false
     )
    M.ite Xx33 (do
     let Xx36←sCat Xx6 (⟨#[32]⟩:ByteArray)
     JR self1 C9 Xx8 Xx36
     ) (do
     JR self1 C9 Xx8 Xx6
     )
    )
   ) (do
   M.pure Xx6
   )
def J9 (x0:Sl):M (ByteArray):=do
 M.loop (U2 x0) (ByteArray.empty,4,0)
theorem Nv (x0:Sl):Kn Go.Proofs.Tryz.prog 26 #[(x0:Sl).v] (fun (r:ByteArray)=>.string r) (J9 x0) :=
 KN [VC,Yz] [] [.S] [(0,.L x0)] (.q .o (.q .o (.q .o (.q (.q .o (.b (.l [(0,.L)] [(3,.S),(4,.I .i64),(5,.I .i64)] (fun (t:Sl)=>U2 t) (fun self1=>.q .o (.q (.b (.q .o (.q .o (.j [(0,.L),(5,.I .i64),(3,.S)] (fun (t:Sl × Int × ByteArray)=>JR self1 t.1 t.2.1 t.2.2) .o)))) (.j [(0,.L),(5,.I .i64),(3,.S),(4,.I .i64)] (fun (t:Sl × Int × ByteArray × Int)=>JQ self1 t.2.1 t.2.2.1 t.2.2.2) .o)))))) .o)))) Go.Proofs.Tryz.func26 rfl rfl ⟨rfl,trivial⟩ rfl (by kernel_rfl) (by kernel_rfl)
noncomputable def Nw:CalleeS Go.Proofs.Tryz.prog:=mkC Gl G0 [.L] [.S] (fun (t:Sl)=>J9 t) (fun (t:Sl)=>Nv t)
def Ze (self1:(Int)→M (Bool)) (C21:Int) (Xx17:Bool):M (Bool):=do
 M.ite Xx17 (do
  M.pure false
  ) (do
  self1 (IntKind.wrap .i64 (C21+1))
  )
def UA (C5:Sl) (C6:Sl) (C7:Int) (self1:(Int)→M (Bool)):(Int)→M (Bool):=fun s=>match s with
 | Xx4=>do
  M.ite (decide (Xx4 < C7)) (do
   let Xx13←ixL C6 Xx4 4
   let Xx14←ldG 4 Xx13
   let Xx15←mkB KP (#[.int .i64 0,.string ByteArray.empty,.int .i64 0,.int .i64 0]:Array Value)
   M.need (Xx14.size=4)
   stG Xx15 Xx14
   let Xx23←ldG 4 Xx15
   let Xx24←ldG 4 Xx15
   let Xx25←VS Xx23
   chk (fun h:Heap=>(Xx23.size=4∧∀ i,i < 4→KO h (Addr.add Xx15 i)=Xx23[i]?)∧(Xx24.size=4∧∀ i,i < 4→KO h (Addr.add Xx15 i)=Xx24[i]?))
   let Xx26←Z1 Xx24
   M.ite (Xx25 != Xx26) (do
    Ze self1 Xx4 true
    ) (do
    let Xx28←ldG 4 Xx15
    let Xx29←ldG 4 Xx15
    let Xx30←Gc Xx28
    chk (fun h:Heap=>(Xx28.size=4∧∀ i,i < 4→KO h (Addr.add Xx15 i)=Xx28[i]?)∧(Xx29.size=4∧∀ i,i < 4→KO h (Addr.add Xx15 i)=Xx29[i]?))
    let Xx31←Jl Xx29
    Ze self1 Xx4 (!(sEq Xx30 Xx31))
    )
   ) (do
   let Xx33←J6
   let Xx34←M.ite Xx33 (do
    let Xx35←GP C5
    let Xx36←J9 C5
    M.pure (sEq Xx35 Xx36)
    ) (do
    M.pure false
    )
   M.pure Xx34
   )
def Un (x0:Sl):M (Bool):=do
 M.loop (UA x0 x0 (x0.len:Int)) 0
theorem Xk (x0:Sl):Kn Go.Proofs.Tryz.prog 6 #[(x0:Sl).v] (fun (r:Bool)=>.bool r) (Un x0) :=
 KN [Np,KB5,Nr,VC,Yz,KEo,Nw] [] [.B] [(0,.L x0)] (.q .o (.q (.q .o (.b (.l [(0,.L),(5,.L),(6,.I .i64)] [(7,.I .i64)] (fun (t:Sl × Sl × Int)=>UA t.1 t.2.1 t.2.2) (fun self1=>.q .o (.q .o (.q (.b (.q .o (.q (.r [0,1,0,6,10,24,32,96,32,416,672,1056] [0,1,0,4,10,16,32,96,32,288,672,1056] [0,1,0,7,15,31,63,127,63,511,1023,2047] (.pu 0 (.pu 2 (.st [3,4,5,6,7,8,9,10,11] (.on 1 (.on 3 (.pu 4 (.pu 5 (.g 5 (.of 6 (.of 7 (.of 8 (.of 9 (.of 10 (.pu 11 (.nx .dn))))))) (.pu 6 (.pu 8 (.st [9,10,11] (.on 7 (.on 9 (.pu 10 (.pu 11 (.nx .dn))))))))))))))))) (.j [(0,.L),(5,.L),(6,.I .i64),(7,.I .i64),(22,.B)] (fun (t:Sl × Sl × Int × Int × Bool)=>Ze self1 t.2.2.2.1 t.2.2.2.2) .o)))) .o)))))) .o)) Go.Proofs.Tryz.func6 rfl rfl ⟨rfl,trivial⟩ rfl (by kernel_rfl) (by kernel_rfl)
def Xl (C6:Int) (C7:Sl) (C8:Int) (self1:(Int)→M (Int)):(Int)→M (Int):=fun s=>match s with
 | Xx5=>do
  M.ite (decide (Xx5 < C8)) (do
   let Xx14←ixL C7 Xx5 1
   let Xx15←ldI .i64 Xx14
   M.ite (Xx15 != C6) (do
    M.pure Xx15
    ) (do
    self1 (IntKind.wrap .i64 (Xx5+1))
    )
   ) (do
   M.pure C6
   )
def XL (x0:Sl):M (Int):=do
 M.loop (Xl 0 x0 (x0.len:Int)) 0
theorem KDt (x0:Sl):Kn Go.Proofs.Tryz.prog 171 #[(x0:Sl).v] (fun (r:Int)=>.int .i64 r) (XL x0) :=
 KN [] [] [.I .i64] [(0,.L x0)] (.q .o (.q .o (.q (.q .o (.b (.l [(3,.I .i64),(6,.L),(7,.I .i64)] [(8,.I .i64)] (fun (t:Int × Sl × Int)=>Xl t.1 t.2.1 t.2.2) (fun _=>.o)))) .o))) Go.Proofs.Tryz.func171 rfl rfl ⟨rfl,trivial⟩ rfl (by kernel_rfl) (by kernel_rfl)
noncomputable def KDu:CalleeS Go.Proofs.Tryz.prog:=mkC KCV KCb [.L] [.I .i64] (fun (t:Sl)=>XL t) (fun (t:Sl)=>KDt t)
def VW (x0:Int):M (Bool):=do
 M.pure (x0 != x0)
theorem KAx (x0:Int):Kn Go.Proofs.Tryz.prog 209 #[.int .i64 x0] (fun (r:Bool)=>.bool r) (VW x0) :=
 KN [] [] [.B] [(0,.I .i64 x0)] .o Go.Proofs.Tryz.func209 rfl rfl ⟨rfl,trivial⟩ rfl (by kernel_rfl) (by kernel_rfl)
noncomputable def KAy:CalleeS Go.Proofs.Tryz.prog:=mkC KAG KAH [.I .i64] [.B] (fun (t:Int)=>VW t) (fun (t:Int)=>KAx t)
def Uo (x0:Int) (x1:Int):M (Int):=do
 let Xx3←VW x0
 let Xx5←VW x1
 M.ite Xx3 (do
  M.ite Xx5 (do
   M.pure 0
   ) (do
   M.pure (-1)
   )
  ) (do
  M.ite Xx5 (do
   M.pure 1
   ) (do
   M.ite (decide (x0 < x1)) (do
    M.pure (-1)
    ) (do
    M.ite (decide (x0 > x1)) (do
     M.pure 1
     ) (do
     M.pure 0
     )
    )
   )
  )
theorem zZ (x0:Int) (x1:Int):Kn Go.Proofs.Tryz.prog 172 #[.int .i64 x0,.int .i64 x1] (fun (r:Int)=>.int .i64 r) (Uo x0 x1) :=
 KN [KAy] [] [.I .i64] [(0,.I .i64 x0),(1,.I .i64 x1)] .o Go.Proofs.Tryz.func172 rfl rfl ⟨rfl,rfl,trivial⟩ rfl (by kernel_rfl) (by kernel_rfl)
noncomputable def za:CalleeS Go.Proofs.Tryz.prog:=mkC qK qR [.I .i64,.I .i64] [.I .i64] (fun (t:Int × Int)=>Uo t.1 t.2) (fun (t:Int × Int)=>zZ t.1 t.2)
def Up (x0:Int):M (Bool):=do
 M.pure (x0 != x0)
theorem zb (x0:Int):Kn Go.Proofs.Tryz.prog 210 #[.int .i64 x0] (fun (r:Bool)=>.bool r) (Up x0) :=
 KN [] [] [.B] [(0,.I .i64 x0)] .o Go.Proofs.Tryz.func210 rfl rfl ⟨rfl,trivial⟩ rfl (by kernel_rfl) (by kernel_rfl)
noncomputable def zc:CalleeS Go.Proofs.Tryz.prog:=mkC qL qS [.I .i64] [.B] (fun (t:Int)=>Up t) (fun (t:Int)=>zb t)
def UB (x0:Int) (x1:Int):M (Int):=do
 let Xx3←Up x0
 let Xx5←Up x1
 M.ite Xx3 (do
  M.ite Xx5 (do
   M.pure 0
   ) (do
   M.pure (-1)
   )
  ) (do
  M.ite Xx5 (do
   M.pure 1
   ) (do
   M.ite (decide (x0 < x1)) (do
    M.pure (-1)
    ) (do
    M.ite (decide (x0 > x1)) (do
     M.pure 1
     ) (do
     M.pure 0
     )
    )
   )
  )
theorem Nx (x0:Int) (x1:Int):Kn Go.Proofs.Tryz.prog 173 #[.int .i64 x0,.int .i64 x1] (fun (r:Int)=>.int .i64 r) (UB x0 x1) :=
 KN [zc] [] [.I .i64] [(0,.I .i64 x0),(1,.I .i64 x1)] .o Go.Proofs.Tryz.func173 rfl rfl ⟨rfl,rfl,trivial⟩ rfl (by kernel_rfl) (by kernel_rfl)
noncomputable def Ny:CalleeS Go.Proofs.Tryz.prog:=mkC Gh Gr [.I .i64,.I .i64] [.I .i64] (fun (t:Int × Int)=>UB t.1 t.2) (fun (t:Int × Int)=>Nx t.1 t.2)
def VX (x0:ByteArray) (x1:ByteArray):M (Int):=do
 let Xx3←ZR x0 x1
 M.pure Xx3
theorem zd (x0:ByteArray) (x1:ByteArray):Kn Go.Proofs.Tryz.prog 174 #[.string x0,.string x1] (fun (r:Int)=>.int .i64 r) (VX x0 x1) :=
 KN [mkC VL VN [.S,.S] [.I .i64] (fun (t:ByteArray × ByteArray)=>ZR t.1 t.2) (fun (t:ByteArray × ByteArray)=>Vm t.1 t.2)] [] [.I .i64] [(0,.S x0),(1,.S x1)] .o Go.Proofs.Tryz.func174 rfl rfl ⟨rfl,rfl,trivial⟩ rfl (by kernel_rfl) (by kernel_rfl)
noncomputable def ze:CalleeS Go.Proofs.Tryz.prog:=mkC qQ qY [.S,.S] [.I .i64] (fun (t:ByteArray × ByteArray)=>VX t.1 t.2) (fun (t:ByteArray × ByteArray)=>zd t.1 t.2)
def KZ (C5:Sl) (C6:Sl) (C7:Value) (C8:Sl) (C9:Int) (self1:(Int)→M (Int)):(Int)→M (Int):=fun s=>match s with
 | Xx4=>do
  M.ite (decide (Xx4 < C9)) (do
   let Xx15←ixL C8 Xx4 4
   let Xx16←ldG 4 Xx15
   let Xx17←mkB KI (#[.int .i64 0,.int .i64 0,.string ByteArray.empty,.slice none 0 0]:Array Value)
   M.need (Xx16.size=4)
   stG Xx17 Xx16
   M.ite (decide (Xx4 ≥ (C6.len:Int))) (do
    M.pure 1
    ) (do
    let Xx23←ixL C6 Xx4 4
    let Xx24←ldG 4 Xx23
    let Xx25←mkB KI (#[.int .i64 0,.int .i64 0,.string ByteArray.empty,.slice none 0 0]:Array Value)
    M.need (Xx24.size=4)
    stG Xx25 Xx24
    let Xx28←ldG 4 Xx17
    let Xx29←ldG 4 Xx25
    let Xx30←Yq Go.Proofs.Tryz.prog (fun r:Int=>.int .i64 r) C7 [.agg Xx28,.agg Xx29]
    M.ite (Xx30 != 0) (do
     M.pure Xx30
     ) (do
     self1 (IntKind.wrap .i64 (Xx4+1))
     )
    )
   ) (do
   M.ite (decide ((C5.len:Int) < (C6.len:Int))) (do
    M.pure (-1)
    ) (do
    M.pure 0
    )
   )
def KQ (x0:Sl) (x1:Sl) (x2:Value):M (Int):=do
 M.loop (KZ x0 x1 x2 x0 (x0.len:Int)) 0
theorem Zi (x0:Sl) (x1:Sl) (x2:Value):Kn Go.Proofs.Tryz.prog 175 #[(x0:Sl).v,(x1:Sl).v,x2] (fun (r:Int)=>.int .i64 r) (KQ x0 x1 x2) :=
 KN [] [] [.I .i64] [(0,.L x0),(1,.L x1),(2,.V x2)] (.q .o (.q (.q .o (.b (.l [(0,.L),(1,.L),(2,.V),(11,.L),(12,.I .i64)] [(13,.I .i64)] (fun (t:Sl × Sl × Value × Sl × Int)=>KZ t.1 t.2.1 t.2.2.1 t.2.2.2.1 t.2.2.2.2) (fun _=>.o)))) .o)) Go.Proofs.Tryz.func175 rfl rfl ⟨rfl,rfl,rfl,trivial⟩ rfl (by kernel_rfl) (by kernel_rfl)
noncomputable def Zj:CalleeS Go.Proofs.Tryz.prog:=mkC Zg Zh [.L,.L,.V] [.I .i64] (fun (t:Sl × Sl × Value)=>KQ t.1 t.2.1 t.2.2) (fun (t:Sl × Sl × Value)=>Zi t.1 t.2.1 t.2.2)
def Us (x0:Array Value) (x1:Array Value):M (Int):=do
 let Xx2←mkB KI x0
 let Xx3←mkB KI x1
 let Xx5←ldI .i64 ((Xx2).add 0)
 let Xx6←ldI .i64 ((Xx3).add 0)
 let Xx7←ldI .i64 ((Xx2).add 1)
 let Xx8←ldI .i64 ((Xx3).add 1)
 let Xx9←ldS ((Xx2).add 2)
 let Xx10←ldS ((Xx3).add 2)
 let Xx11←ldL ((Xx2).add 3)
 let Xx12←ldL ((Xx3).add 3)
 let Xx13←Uo Xx5 Xx6
 chk (fun h:Heap=>(KO h ((Xx2).add 0)=some (.int .i64 Xx5))∧(KO h ((Xx3).add 0)=some (.int .i64 Xx6))∧(KO h ((Xx2).add 1)=some (.int .i64 Xx7))∧(KO h ((Xx3).add 1)=some (.int .i64 Xx8))∧(KO h ((Xx2).add 2)=some (.string Xx9))∧(KO h ((Xx3).add 2)=some (.string Xx10))∧(KO h ((Xx2).add 3)=some ((Xx11:Sl).v))∧(KO h ((Xx3).add 3)=some ((Xx12:Sl).v)))
 let Xx14←UB Xx7 Xx8
 chk (fun h:Heap=>(KO h ((Xx2).add 0)=some (.int .i64 Xx5))∧(KO h ((Xx3).add 0)=some (.int .i64 Xx6))∧(KO h ((Xx2).add 1)=some (.int .i64 Xx7))∧(KO h ((Xx3).add 1)=some (.int .i64 Xx8))∧(KO h ((Xx2).add 2)=some (.string Xx9))∧(KO h ((Xx3).add 2)=some (.string Xx10))∧(KO h ((Xx2).add 3)=some ((Xx11:Sl).v))∧(KO h ((Xx3).add 3)=some ((Xx12:Sl).v)))
 let Xx15←VX Xx9 Xx10
 chk (fun h:Heap=>(KO h ((Xx2).add 0)=some (.int .i64 Xx5))∧(KO h ((Xx3).add 0)=some (.int .i64 Xx6))∧(KO h ((Xx2).add 1)=some (.int .i64 Xx7))∧(KO h ((Xx3).add 1)=some (.int .i64 Xx8))∧(KO h ((Xx2).add 2)=some (.string Xx9))∧(KO h ((Xx3).add 2)=some (.string Xx10))∧(KO h ((Xx2).add 3)=some ((Xx11:Sl).v))∧(KO h ((Xx3).add 3)=some ((Xx12:Sl).v)))
 let Xx16←KQ Xx11 Xx12 (Value.func (.func Xv) #[] #[])
 let Xx17←bdL Vo 4 #[.int .i64 Xx13,.int .i64 Xx14,.int .i64 Xx15,.int .i64 Xx16]
 let Xx18←XL Xx17
 M.pure Xx18
theorem GQ (x0:Array Value) (x1:Array Value):Kn Go.Proofs.Tryz.prog 124 #[.agg x0,.agg x1] (fun (r:Int)=>.int .i64 r) (Us x0 x1) :=
 KN [KDu,za,Ny,ze,Zj] [] [.I .i64] [(0,.G x0),(1,.G x1)] (.q .o (.q (.r [0,1,0,4,10,0,32,0,128,336,0,1024,0,4096,10752,0,32768,0,131072,344064,541200,1572864,4194303] [0,1,0,4,10,0,32,0,128,320,0,1024,0,4096,10240,0,32768,0,131072,327680,541200,1048576,2097152] [0,1,0,4,15,0,32,0,128,511,0,1024,0,4096,16383,0,32768,0,131072,524287,1048575,2097151,4194303] (.pu 0 (.pu 2 (.pu 5 (.pu 7 (.pu 10 (.pu 12 (.pu 15 (.pu 17 (.pu 1 (.pu 3 (.pu 6 (.pu 8 (.pu 11 (.pu 13 (.pu 16 (.pu 18 (.st [19,20,21,22] (.on 4 (.on 9 (.on 14 (.on 19 (.on 20 (.on 21 (.pu 22 (.nx .dn)))))))))))))))))))))))))) .o)) Go.Proofs.Tryz.func124 rfl rfl ⟨rfl,rfl,trivial⟩ rfl (by kernel_rfl) (by kernel_rfl)
noncomputable def KAz:CalleeS Go.Proofs.Tryz.prog:=mkC Xv Xw [.G,.G] [.I .i64] (fun (t:Array Value × Array Value)=>Us t.1 t.2) (fun (t:Array Value × Array Value)=>GQ t.1 t.2)
end Gx
