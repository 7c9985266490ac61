/- Printed by program: Go functions as Lean programs, each tied to its code. No condition. -/
import Derived.Test.YtpibdohdkfkcnaaGreatDoorP0
import Derived.Test.YtpibdohdkfkcnaaGreatDoorP1
import Derived.Test.YtpibdohdkfkcnaaGreatDoorP2
import Derived.Test.YtpibdohdkfkcnaaGreatDoorProg
import Derived.KernelRfl
import Derived.Lib.AtoiErrMem
import Derived.Shelf.Small.Strs
import Derived.Shelf.Strconv.Itoa3
import Derived.Shelf.Strconv.ParseInt10All
import Derived.Shelf.Strings.Builder1
import Derived.Shelf.Strings.Count
import Derived.Shelf.Strings.Search1
import Derived.Shelf.Strings.Search2
import Derived.Shelf.Strings.SlTrimAscii
set_option linter.unusedVariables false
set_option linter.unusedSimpArgs false
set_option maxRecDepth 100000
namespace Gx
open Go
abbrev KAA:Nat:=172
abbrev qH:Nat:=173
abbrev KEi:Nat:=171
abbrev KBn:Nat:=209
abbrev KAB:Nat:=210
abbrev Wp:Nat:=211
abbrev XK:Nat:=262
abbrev Yy:Nat:=271
abbrev Yz:Nat:=224
abbrev Wq:Nat:=140
abbrev KEj:Nat:=179
abbrev KCb:Nat:=177
abbrev KEk:Nat:=54
abbrev KEl:Nat:=212
abbrev WI:Nat:=92
abbrev q8:Nat:=93
abbrev KFy:Nat:=178
abbrev KFz:Nat:=253
abbrev KDe:Nat:=258
abbrev KHH:Nat:=260
abbrev KDf:Nat:=31
abbrev KBo:Nat:=64
abbrev KDg:Nat:=35
abbrev KBp:Nat:=72
abbrev KEm:Nat:=40
abbrev KEn:Nat:=196
abbrev KEo:Nat:=197
abbrev VJ:Nat:=63
abbrev WJ:Nat:=115
abbrev Ve:Nat:=199
abbrev UT:Nat:=147
abbrev Vu:Nat:=73
abbrev KEp:Nat:=78
abbrev qI:Nat:=30
abbrev Ni:Nat:=151
abbrev q9:Nat:=111
abbrev zA:Nat:=200
abbrev qJ:Nat:=33
abbrev UU:Nat:=74
abbrev qK:Nat:=112
abbrev zB:Nat:=36
abbrev zC:Nat:=34
abbrev Ub:Nat:=109
abbrev Vk:Nat:=70
abbrev KAC:Nat:=117
abbrev qL:Nat:=110
abbrev VK:Nat:=71
abbrev Up:Nat:=113
abbrev zD:Nat:=118
abbrev JK:Nat:=175
abbrev VA:Nat:=165
abbrev Wm:Nat:=257
abbrev Vf:Nat:=205
abbrev YK:Nat:=261
abbrev YL:Nat:=195
abbrev zE:Nat:=259
abbrev qM:Nat:=267
abbrev Gy:Nat:=268
abbrev Nj:Nat:=266
abbrev NV:Nat:=265
abbrev KAD:Nat:=263
abbrev KAE:Nat:=174
abbrev KBq:Nat:=207
abbrev KBr:Nat:=208
abbrev qN:Nat:=100
abbrev KBs:Nat:=123
abbrev KCc:Nat:=99
abbrev KAF:Nat:=206
abbrev zF:Nat:=170
abbrev KDh:Nat:=153
abbrev NR:Nat:=124
abbrev KEq:Nat:=53
abbrev KDi:Nat:=180
abbrev KF0:Nat:=201
abbrev KDj:Nat:=221
abbrev XL:Nat:=213
abbrev XA:Nat:=246
abbrev Vv:Nat:=227
abbrev GD:Nat:=23
abbrev Vw:Nat:=123
abbrev Zm:Nat:=94
abbrev KX:Nat:=29
abbrev KH:Nat:=54
abbrev KCd:Nat:=4
abbrev VE:Nat:=3
abbrev KIF:Nat:=2
abbrev Kw:Nat:=265
abbrev qn:Nat:=70
abbrev Y0:Nat:=68
abbrev JF:Nat:=98
abbrev Uc:Nat:=268
abbrev Nk:Nat:=139
abbrev Vc:Nat:=178
abbrev ZI:Nat:=176
abbrev WR:Nat:=137
abbrev Yi:Nat:=161
abbrev YZ:Nat:=43
abbrev Uz:Nat:=22
abbrev zG:Nat:=273
abbrev Yj:Nat:=9
abbrev KAG:Nat:=82
abbrev ZJ:Nat:=5
abbrev Xe:Nat:=233
abbrev JP:Nat:=229
theorem mo:Go.Proofs.Tryz.prog.follows .mixedOrders=true:=by kernel_rfl
theorem KO0:Go.Proofs.Tryz.prog.underlying 180=some (.slice 176):=by kernel_rfl
theorem un22:Go.Proofs.Tryz.prog.underlying 22=some (.slice 29):=by kernel_rfl
theorem un3:Go.Proofs.Tryz.prog.underlying 3=some (.int .i64):=by kernel_rfl
theorem un43:Go.Proofs.Tryz.prog.underlying 43=some (.slice 94):=by kernel_rfl
theorem un44:Go.Proofs.Tryz.prog.underlying 44=some (.slice 5):=by kernel_rfl
theorem un5:Go.Proofs.Tryz.prog.underlying 5=some (.int .u8):=by kernel_rfl
theorem un52:Go.Proofs.Tryz.prog.underlying 52=some (.slice 54):=by kernel_rfl
theorem un89:Go.Proofs.Tryz.prog.underlying 89=some (.slice 9):=by kernel_rfl
theorem un9:Go.Proofs.Tryz.prog.underlying 9=some (.string):=by kernel_rfl
theorem un90:Go.Proofs.Tryz.prog.underlying 90=some (.slice 2):=by kernel_rfl
theorem un91:Go.Proofs.Tryz.prog.underlying 91=some (.slice 123):=by kernel_rfl
theorem un92:Go.Proofs.Tryz.prog.underlying 92=some (.slice 43):=by kernel_rfl
theorem KKa:((Go.Proofs.Tryz.prog.info? 123).bind (·.zero))=some (.agg (#[.int .i64 0,.slice none 0 0]:Array Value)):=by kernel_rfl
theorem KQj:((Go.Proofs.Tryz.prog.info? 137).bind (·.zero))=some (.agg (#[.int .i64 0,.int .i64 0]:Array Value)):=by kernel_rfl
theorem KO1:((Go.Proofs.Tryz.prog.info? 176).bind (·.zero))=some (.agg (#[.int .i64 0,.int .i64 0]:Array Value)):=by kernel_rfl
theorem KRt:((Go.Proofs.Tryz.prog.info? 178).bind (·.zero))=some (.agg (Array.replicate 10 (.int .i64 0):Array Value)):=by kernel_rfl
theorem zr2:((Go.Proofs.Tryz.prog.info? 2).bind (·.zero))=some (.int .i64 0):=by kernel_rfl
theorem zr22:((Go.Proofs.Tryz.prog.info? 22).bind (·.zero))=some (.slice none 0 0):=by kernel_rfl
theorem KQk:((Go.Proofs.Tryz.prog.info? 229).bind (·.zero))=some (.agg (#[.int .i64 0]:Array Value)):=by kernel_rfl
theorem zr23:((Go.Proofs.Tryz.prog.info? 23).bind (·.zero))=some (.int .i64 0):=by kernel_rfl
theorem zr29:((Go.Proofs.Tryz.prog.info? 29).bind (·.zero))=some (.agg (#[.int .i64 0,.string ByteArray.empty,.int .i64 0,.int .i64 0]:Array Value)):=by kernel_rfl
theorem zr3:((Go.Proofs.Tryz.prog.info? 3).bind (·.zero))=some (.int .i64 0):=by kernel_rfl
theorem zr43:((Go.Proofs.Tryz.prog.info? 43).bind (·.zero))=some (.slice none 0 0):=by kernel_rfl
theorem zr5:((Go.Proofs.Tryz.prog.info? 5).bind (·.zero))=some (.int .u8 0):=by kernel_rfl
theorem zr54:((Go.Proofs.Tryz.prog.info? 54).bind (·.zero))=some (.agg (#[.int .i64 0,.int .i64 0,.string ByteArray.empty,.slice none 0 0]:Array Value)):=by kernel_rfl
theorem zr70:((Go.Proofs.Tryz.prog.info? 70).bind (·.zero))=some (.agg (#[.string ByteArray.empty,.int .i64 0]:Array Value)):=by kernel_rfl
theorem zr9:((Go.Proofs.Tryz.prog.info? 9).bind (·.zero))=some (.string ByteArray.empty):=by kernel_rfl
theorem zr94:((Go.Proofs.Tryz.prog.info? 94).bind (·.zero))=some (.agg (#[.int .i64 0,.slice none 0 0,.slice none 0 0,.slice none 0 0,.slice none 0 0,.slice none 0 0]:Array Value)):=by kernel_rfl
theorem KO2:agB Go.Proofs.Tryz.prog 123 2=true:=by kernel_rfl
theorem KHI:agB Go.Proofs.Tryz.prog 176 2=true:=by kernel_rfl
theorem ag29:agB Go.Proofs.Tryz.prog 29 4=true:=by kernel_rfl
theorem ag54:agB Go.Proofs.Tryz.prog 54 4=true:=by kernel_rfl
theorem ag94:agB Go.Proofs.Tryz.prog 94 6=true:=by kernel_rfl
theorem ap22:apB Go.Proofs.Tryz.prog 22 29 4 40 (#[.int .i64 0,.string ByteArray.empty,.int .i64 0,.int .i64 0]:Array Value):=⟨un22,YI (by kernel_rfl)⟩
theorem ap43:apB Go.Proofs.Tryz.prog 43 94 6 128 (#[.int .i64 0,.slice none 0 0,.slice none 0 0,.slice none 0 0,.slice none 0 0,.slice none 0 0]:Array Value):=⟨un43,YI (by kernel_rfl)⟩
theorem ap44:apB Go.Proofs.Tryz.prog 44 5 1 1 (#[.int .u8 0]:Array Value):=⟨un44,YI (by kernel_rfl)⟩
theorem ap52:apB Go.Proofs.Tryz.prog 52 54 4 56 (#[.int .i64 0,.int .i64 0,.string ByteArray.empty,.slice none 0 0]:Array Value):=⟨un52,YI (by kernel_rfl)⟩
theorem ap89:apB Go.Proofs.Tryz.prog 89 9 1 16 (#[.string ByteArray.empty]:Array Value):=⟨un89,YI (by kernel_rfl)⟩
theorem ap90:apB Go.Proofs.Tryz.prog 90 2 1 8 (#[.int .i64 0]:Array Value):=⟨un90,YI (by kernel_rfl)⟩
theorem ap91:apB Go.Proofs.Tryz.prog 91 123 2 32 (#[.int .i64 0,.slice none 0 0]:Array Value):=⟨un91,YI (by kernel_rfl)⟩
theorem ap92:apB Go.Proofs.Tryz.prog 92 43 1 24 (#[.slice none 0 0]:Array Value):=⟨un92,YI (by kernel_rfl)⟩
theorem KRu:∀w,(Instr.build 176 #[]).run Go.Proofs.Tryz.prog w=.ok (.agg (#[.int .i64 0,.int .i64 0]:Array Value)) w:=fun w=>by kernel_rfl
theorem bd29:∀w,(Instr.build 29 #[]).run Go.Proofs.Tryz.prog w=.ok (.agg (#[.int .i64 0,.string ByteArray.empty,.int .i64 0,.int .i64 0]:Array Value)) w:=fun w=>by kernel_rfl
theorem bd54:∀w,(Instr.build 54 #[]).run Go.Proofs.Tryz.prog w=.ok (.agg (#[.int .i64 0,.int .i64 0,.string ByteArray.empty,.slice none 0 0]:Array Value)) w:=fun w=>by kernel_rfl
theorem KAH:Callee? Go.Proofs.Tryz.prog 172:=KJ Go.Proofs.Tryz.func172 (by kernel_rfl) rfl
theorem qO:Callee? Go.Proofs.Tryz.prog 173:=KJ Go.Proofs.Tryz.func173 (by kernel_rfl) rfl
theorem KEr:Callee? Go.Proofs.Tryz.prog 171:=KJ Go.Proofs.Tryz.func171 (by kernel_rfl) rfl
theorem KBt:Callee? Go.Proofs.Tryz.prog 209:=KJ Go.Proofs.Tryz.func209 (by kernel_rfl) rfl
theorem KAI:Callee? Go.Proofs.Tryz.prog 210:=KJ Go.Proofs.Tryz.func210 (by kernel_rfl) rfl
theorem Wr:Callee? Go.Proofs.Tryz.prog 211:=KJ Go.Proofs.Tryz.func211 (by kernel_rfl) rfl
theorem XM:Callee? Go.Proofs.Tryz.prog 262:=KJ Go.Proofs.Tryz.func262 (by kernel_rfl) rfl
theorem Y1:Callee? Go.Proofs.Tryz.prog 271:=KJ Go.Proofs.Tryz.func271 (by kernel_rfl) rfl
theorem Y2:Callee? Go.Proofs.Tryz.prog 224:=KJ Go.Proofs.Tryz.func224 (by kernel_rfl) rfl
theorem Ws:Callee? Go.Proofs.Tryz.prog 140:=KJ Go.Proofs.Tryz.func140 (by kernel_rfl) rfl
theorem KF1:Callee? Go.Proofs.Tryz.prog 22:=KJ Go.Proofs.Tryz.func22 (by kernel_rfl) rfl
theorem KJQ:Callee? Go.Proofs.Tryz.prog 13:=KJ Go.Proofs.Tryz.func13 (by kernel_rfl) rfl
theorem KEs:Callee? Go.Proofs.Tryz.prog 179:=KJ Go.Proofs.Tryz.func179 (by kernel_rfl) rfl
theorem KCe:Callee? Go.Proofs.Tryz.prog 177:=KJ Go.Proofs.Tryz.func177 (by kernel_rfl) rfl
theorem KEt:Callee? Go.Proofs.Tryz.prog 54:=KJ Go.Proofs.Tryz.func54 (by kernel_rfl) rfl
theorem KEu:Callee? Go.Proofs.Tryz.prog 212:=KJ Go.Proofs.Tryz.func212 (by kernel_rfl) rfl
theorem KD7:Callee? Go.Proofs.Tryz.prog 126:=KJ Go.Proofs.Tryz.func126 (by kernel_rfl) rfl
theorem KAJ:Callee? Go.Proofs.Tryz.prog 45:=KJ Go.Proofs.Tryz.func45 (by kernel_rfl) rfl
theorem qP:Callee? Go.Proofs.Tryz.prog 92:=KJ Go.Proofs.Tryz.func92 (by kernel_rfl) rfl
theorem Yk:Callee? Go.Proofs.Tryz.prog 46:=KJ Go.Proofs.Tryz.func46 (by kernel_rfl) rfl
theorem zH:Callee? Go.Proofs.Tryz.prog 93:=KJ Go.Proofs.Tryz.func93 (by kernel_rfl) rfl
theorem KF2:Callee? Go.Proofs.Tryz.prog 178:=KJ Go.Proofs.Tryz.func178 (by kernel_rfl) rfl
theorem KF3:Callee? Go.Proofs.Tryz.prog 253:=KJ Go.Proofs.Tryz.func253 (by kernel_rfl) rfl
theorem KDk:Callee? Go.Proofs.Tryz.prog 258:=KJ Go.Proofs.Tryz.func258 (by kernel_rfl) rfl
theorem KHJ:Callee? Go.Proofs.Tryz.prog 260:=KJ Go.Proofs.Tryz.func260 (by kernel_rfl) rfl
theorem KDl:Callee? Go.Proofs.Tryz.prog 31:=KJ Go.Proofs.Tryz.func31 (by kernel_rfl) rfl
theorem KBu:Callee? Go.Proofs.Tryz.prog 64:=KJ Go.Proofs.Tryz.func64 (by kernel_rfl) rfl
theorem KDm:Callee? Go.Proofs.Tryz.prog 35:=KJ Go.Proofs.Tryz.func35 (by kernel_rfl) rfl
theorem KBv:Callee? Go.Proofs.Tryz.prog 72:=KJ Go.Proofs.Tryz.func72 (by kernel_rfl) rfl
theorem KEv:Callee? Go.Proofs.Tryz.prog 40:=KJ Go.Proofs.Tryz.func40 (by kernel_rfl) rfl
theorem KBw:Callee? Go.Proofs.Tryz.prog 160:=KJ Go.Proofs.Tryz.func160 (by kernel_rfl) rfl
theorem KCf:Callee? Go.Proofs.Tryz.prog 162:=KJ Go.Proofs.Tryz.func162 (by kernel_rfl) rfl
theorem KA8:Callee? Go.Proofs.Tryz.prog 116:=KJ Go.Proofs.Tryz.func116 (by kernel_rfl) rfl
theorem JB:Callee? Go.Proofs.Tryz.prog 105:=KJ Go.Proofs.Tryz.func105 (by kernel_rfl) rfl
theorem KEw:Callee? Go.Proofs.Tryz.prog 196:=KJ Go.Proofs.Tryz.func196 (by kernel_rfl) rfl
theorem qo:Callee? Go.Proofs.Tryz.prog 143:=KJ Go.Proofs.Tryz.func143 (by kernel_rfl) rfl
theorem KEx:Callee? Go.Proofs.Tryz.prog 197:=KJ Go.Proofs.Tryz.func197 (by kernel_rfl) rfl
theorem KA9:Callee? Go.Proofs.Tryz.prog 198:=KJ Go.Proofs.Tryz.func198 (by kernel_rfl) rfl
theorem KAK:Callee? Go.Proofs.Tryz.prog 63:=KJ Go.Proofs.Tryz.func63 (by kernel_rfl) rfl
theorem ZX:Callee? Go.Proofs.Tryz.prog 106:=KJ Go.Proofs.Tryz.func106 (by kernel_rfl) rfl
theorem ZP:Callee? Go.Proofs.Tryz.prog 107:=KJ Go.Proofs.Tryz.func107 (by kernel_rfl) rfl
theorem XB:Callee? Go.Proofs.Tryz.prog 115:=KJ Go.Proofs.Tryz.func115 (by kernel_rfl) rfl
theorem Kg:Callee? Go.Proofs.Tryz.prog 66:=KJ Go.Proofs.Tryz.func66 (by kernel_rfl) rfl
theorem qQ:Callee? Go.Proofs.Tryz.prog 148:=KJ Go.Proofs.Tryz.func148 (by kernel_rfl) rfl
theorem ZY:Callee? Go.Proofs.Tryz.prog 144:=KJ Go.Proofs.Tryz.func144 (by kernel_rfl) rfl
theorem zI:Callee? Go.Proofs.Tryz.prog 149:=KJ Go.Proofs.Tryz.func149 (by kernel_rfl) rfl
theorem Nl:Callee? Go.Proofs.Tryz.prog 114:=KJ Go.Proofs.Tryz.func114 (by kernel_rfl) rfl
theorem qR:Callee? Go.Proofs.Tryz.prog 150:=KJ Go.Proofs.Tryz.func150 (by kernel_rfl) rfl
theorem NW:Callee? Go.Proofs.Tryz.prog 199:=KJ Go.Proofs.Tryz.func199 (by kernel_rfl) rfl
theorem XC:Callee? Go.Proofs.Tryz.prog 146:=KJ Go.Proofs.Tryz.func146 (by kernel_rfl) rfl
theorem XD:Callee? Go.Proofs.Tryz.prog 108:=KJ Go.Proofs.Tryz.func108 (by kernel_rfl) rfl
theorem NX:Callee? Go.Proofs.Tryz.prog 147:=KJ Go.Proofs.Tryz.func147 (by kernel_rfl) rfl
theorem XE:Callee? Go.Proofs.Tryz.prog 65:=KJ Go.Proofs.Tryz.func65 (by kernel_rfl) rfl
theorem WS:Callee? Go.Proofs.Tryz.prog 67:=KJ Go.Proofs.Tryz.func67 (by kernel_rfl) rfl
theorem Ze:Callee? Go.Proofs.Tryz.prog 73:=KJ Go.Proofs.Tryz.func73 (by kernel_rfl) rfl
theorem KBx:Callee? Go.Proofs.Tryz.prog 145:=KJ Go.Proofs.Tryz.func145 (by kernel_rfl) rfl
theorem KEy:Callee? Go.Proofs.Tryz.prog 78:=KJ Go.Proofs.Tryz.func78 (by kernel_rfl) rfl
theorem qS:Callee? Go.Proofs.Tryz.prog 30:=KJ Go.Proofs.Tryz.func30 (by kernel_rfl) rfl
theorem Nm:Callee? Go.Proofs.Tryz.prog 151:=KJ Go.Proofs.Tryz.func151 (by kernel_rfl) rfl
theorem zJ:Callee? Go.Proofs.Tryz.prog 111:=KJ Go.Proofs.Tryz.func111 (by kernel_rfl) rfl
theorem zK:Callee? Go.Proofs.Tryz.prog 200:=KJ Go.Proofs.Tryz.func200 (by kernel_rfl) rfl
theorem qT:Callee? Go.Proofs.Tryz.prog 33:=KJ Go.Proofs.Tryz.func33 (by kernel_rfl) rfl
theorem YE:Callee? Go.Proofs.Tryz.prog 74:=KJ Go.Proofs.Tryz.func74 (by kernel_rfl) rfl
theorem qU:Callee? Go.Proofs.Tryz.prog 112:=KJ Go.Proofs.Tryz.func112 (by kernel_rfl) rfl
theorem zL:Callee? Go.Proofs.Tryz.prog 36:=KJ Go.Proofs.Tryz.func36 (by kernel_rfl) rfl
theorem zM:Callee? Go.Proofs.Tryz.prog 34:=KJ Go.Proofs.Tryz.func34 (by kernel_rfl) rfl
theorem KAL:Callee? Go.Proofs.Tryz.prog 109:=KJ Go.Proofs.Tryz.func109 (by kernel_rfl) rfl
theorem GE:Callee? Go.Proofs.Tryz.prog 70:=KJ Go.Proofs.Tryz.func70 (by kernel_rfl) rfl
theorem KAM:Callee? Go.Proofs.Tryz.prog 117:=KJ Go.Proofs.Tryz.func117 (by kernel_rfl) rfl
theorem qV:Callee? Go.Proofs.Tryz.prog 110:=KJ Go.Proofs.Tryz.func110 (by kernel_rfl) rfl
theorem Xf:Callee? Go.Proofs.Tryz.prog 71:=KJ Go.Proofs.Tryz.func71 (by kernel_rfl) rfl
theorem qW:Callee? Go.Proofs.Tryz.prog 113:=KJ Go.Proofs.Tryz.func113 (by kernel_rfl) rfl
theorem zN:Callee? Go.Proofs.Tryz.prog 118:=KJ Go.Proofs.Tryz.func118 (by kernel_rfl) rfl
theorem JL:Callee? Go.Proofs.Tryz.prog 175:=KJ Go.Proofs.Tryz.func175 (by kernel_rfl) rfl
theorem VB:Callee? Go.Proofs.Tryz.prog 165:=KJ Go.Proofs.Tryz.func165 (by kernel_rfl) rfl
theorem Wn:Callee? Go.Proofs.Tryz.prog 257:=KJ Go.Proofs.Tryz.func257 (by kernel_rfl) rfl
theorem Vg:Callee? Go.Proofs.Tryz.prog 205:=KJ Go.Proofs.Tryz.func205 (by kernel_rfl) rfl
theorem YM:Callee? Go.Proofs.Tryz.prog 261:=KJ Go.Proofs.Tryz.func261 (by kernel_rfl) rfl
theorem YN:Callee? Go.Proofs.Tryz.prog 195:=KJ Go.Proofs.Tryz.func195 (by kernel_rfl) rfl
theorem zO:Callee? Go.Proofs.Tryz.prog 259:=KJ Go.Proofs.Tryz.func259 (by kernel_rfl) rfl
theorem qX:Callee? Go.Proofs.Tryz.prog 267:=KJ Go.Proofs.Tryz.func267 (by kernel_rfl) rfl
theorem Gz:Callee? Go.Proofs.Tryz.prog 268:=KJ Go.Proofs.Tryz.func268 (by kernel_rfl) rfl
theorem Nn:Callee? Go.Proofs.Tryz.prog 266:=KJ Go.Proofs.Tryz.func266 (by kernel_rfl) rfl
theorem NY:Callee? Go.Proofs.Tryz.prog 265:=KJ Go.Proofs.Tryz.func265 (by kernel_rfl) rfl
theorem KAN:Callee? Go.Proofs.Tryz.prog 263:=KJ Go.Proofs.Tryz.func263 (by kernel_rfl) rfl
theorem KAO:Callee? Go.Proofs.Tryz.prog 174:=KJ Go.Proofs.Tryz.func174 (by kernel_rfl) rfl
theorem KBy:Callee? Go.Proofs.Tryz.prog 207:=KJ Go.Proofs.Tryz.func207 (by kernel_rfl) rfl
theorem KBz:Callee? Go.Proofs.Tryz.prog 208:=KJ Go.Proofs.Tryz.func208 (by kernel_rfl) rfl
theorem WK:Callee? Go.Proofs.Tryz.prog 100:=KJ Go.Proofs.Tryz.func100 (by kernel_rfl) rfl
theorem KB0:Callee? Go.Proofs.Tryz.prog 123:=KJ Go.Proofs.Tryz.func123 (by kernel_rfl) rfl
theorem KCg:Callee? Go.Proofs.Tryz.prog 99:=KJ Go.Proofs.Tryz.func99 (by kernel_rfl) rfl
theorem KAP:Callee? Go.Proofs.Tryz.prog 206:=KJ Go.Proofs.Tryz.func206 (by kernel_rfl) rfl
theorem zP:Callee? Go.Proofs.Tryz.prog 170:=KJ Go.Proofs.Tryz.func170 (by kernel_rfl) rfl
theorem G8:Callee? Go.Proofs.Tryz.prog 152:=KJ Go.Proofs.Tryz.func152 (by kernel_rfl) rfl
theorem KDn:Callee? Go.Proofs.Tryz.prog 153:=KJ Go.Proofs.Tryz.func153 (by kernel_rfl) rfl
theorem NS:Callee? Go.Proofs.Tryz.prog 124:=KJ Go.Proofs.Tryz.func124 (by kernel_rfl) rfl
theorem KBd:Callee? Go.Proofs.Tryz.prog 51:=KJ Go.Proofs.Tryz.func51 (by kernel_rfl) rfl
theorem KEz:Callee? Go.Proofs.Tryz.prog 53:=KJ Go.Proofs.Tryz.func53 (by kernel_rfl) rfl
theorem KDo:Callee? Go.Proofs.Tryz.prog 180:=KJ Go.Proofs.Tryz.func180 (by kernel_rfl) rfl
theorem KBe:Callee? Go.Proofs.Tryz.prog 52:=KJ Go.Proofs.Tryz.func52 (by kernel_rfl) rfl
theorem GJ:Callee? Go.Proofs.Tryz.prog 241:=KJ Go.Proofs.Tryz.func241 (by kernel_rfl) rfl
theorem KF4:Callee? Go.Proofs.Tryz.prog 201:=KJ Go.Proofs.Tryz.func201 (by kernel_rfl) rfl
theorem KDp:Callee? Go.Proofs.Tryz.prog 221:=KJ Go.Proofs.Tryz.func221 (by kernel_rfl) rfl
theorem KE0:Callee? Go.Proofs.Tryz.prog 213:=KJ Go.Proofs.Tryz.func213 (by kernel_rfl) rfl
theorem Wt:Callee? Go.Proofs.Tryz.prog 245:=KJ Go.Proofs.Tryz.func245 (by kernel_rfl) rfl
theorem G9:Callee? Go.Proofs.Tryz.prog 254:=KJ Go.Proofs.Tryz.func254 (by kernel_rfl) rfl
theorem ZK:Callee? Go.Proofs.Tryz.prog 228:=KJ Go.Proofs.Tryz.func228 (by kernel_rfl) rfl
theorem Kv:Callee? Go.Proofs.Tryz.prog 240:=KJ Go.Proofs.Tryz.func240 (by kernel_rfl) rfl
theorem XF:Callee? Go.Proofs.Tryz.prog 246:=KJ Go.Proofs.Tryz.func246 (by kernel_rfl) rfl
theorem Zl:Callee? Go.Proofs.Tryz.prog 244:=KJ Go.Proofs.Tryz.func244 (by kernel_rfl) rfl
theorem YF:Callee? Go.Proofs.Tryz.prog 242:=KJ Go.Proofs.Tryz.func242 (by kernel_rfl) rfl
theorem zQ:Callee? Go.Proofs.Tryz.prog 243:=KJ Go.Proofs.Tryz.func243 (by kernel_rfl) rfl
theorem Vx:Callee? Go.Proofs.Tryz.prog 227:=KJ Go.Proofs.Tryz.func227 (by kernel_rfl) rfl
theorem KKb:Wl Go.Proofs.Tryz.prog 123 1=some 1:=by kernel_rfl
theorem YO:Wl Go.Proofs.Tryz.prog 139 0=some 0:=by kernel_rfl
theorem KHK:Wl Go.Proofs.Tryz.prog 139 2=some 2:=by kernel_rfl
theorem NA:Wl Go.Proofs.Tryz.prog 176 0=some 0:=by kernel_rfl
theorem GK:Wl Go.Proofs.Tryz.prog 176 1=some 1:=by kernel_rfl
theorem KHL:Wl Go.Proofs.Tryz.prog 178 0=some 0:=by kernel_rfl
theorem KKc:Wl Go.Proofs.Tryz.prog 178 1=some 2:=by kernel_rfl
theorem KKd:Wl Go.Proofs.Tryz.prog 178 2=some 4:=by kernel_rfl
theorem KKe:Wl Go.Proofs.Tryz.prog 178 3=some 6:=by kernel_rfl
theorem KO3:Wl Go.Proofs.Tryz.prog 178 4=some 8:=by kernel_rfl
theorem Y3:Wl Go.Proofs.Tryz.prog 233 0=some 0:=by kernel_rfl
theorem Zn:Wl Go.Proofs.Tryz.prog 233 1=some 1:=by kernel_rfl
theorem KCh:Wl Go.Proofs.Tryz.prog 29 0=some 0:=by kernel_rfl
theorem KQl:Wl Go.Proofs.Tryz.prog 29 1=some 1:=by kernel_rfl
theorem KNx:Wl Go.Proofs.Tryz.prog 29 3=some 3:=by kernel_rfl
theorem KQm:Wl Go.Proofs.Tryz.prog 70 0=some 0:=by kernel_rfl
theorem KF5:Wl Go.Proofs.Tryz.prog 70 1=some 1:=by kernel_rfl
theorem KNy:Wl Go.Proofs.Tryz.prog 94 0=some 0:=by kernel_rfl
theorem KNz:Wl Go.Proofs.Tryz.prog 94 1=some 1:=by kernel_rfl
theorem KN0:Wl Go.Proofs.Tryz.prog 94 2=some 2:=by kernel_rfl
theorem KKf:Wl Go.Proofs.Tryz.prog 94 3=some 3:=by kernel_rfl
theorem KKg:Wl Go.Proofs.Tryz.prog 94 4=some 4:=by kernel_rfl
theorem KN1:Wl Go.Proofs.Tryz.prog 94 5=some 5:=by kernel_rfl
theorem KIG:fdoB Go.Proofs.Tryz.prog 29 1=some (1,9):=by kernel_rfl
theorem KKh:fdoB Go.Proofs.Tryz.prog 29 2=some (2,2):=by kernel_rfl
theorem KRv:niB Go.Proofs.Tryz.prog 137=true:=by kernel_rfl
theorem KRw:niB Go.Proofs.Tryz.prog 229=true:=by kernel_rfl
theorem KQn:WA Go.Proofs.Tryz.prog 123=some [(0,1),(1,1)]:=by kernel_rfl
theorem KRx:WA Go.Proofs.Tryz.prog 137=some [(0,1),(1,1)]:=by kernel_rfl
theorem KRy:WA Go.Proofs.Tryz.prog 229=some [(0,1)]:=by kernel_rfl
theorem pl54:WA Go.Proofs.Tryz.prog 54=some [(0,1),(1,1),(2,1),(3,1)]:=by kernel_rfl
theorem pl70:WA Go.Proofs.Tryz.prog 70=some [(0,1),(1,1)]:=by kernel_rfl
theorem pl94:WA Go.Proofs.Tryz.prog 94=some [(0,1),(1,1),(2,1),(3,1),(4,1),(5,1)]:=by kernel_rfl
theorem sc2:scB Go.Proofs.Tryz.prog 2=true:=by kernel_rfl
theorem sc22:scB Go.Proofs.Tryz.prog 22=true:=by kernel_rfl
theorem sc23:scB Go.Proofs.Tryz.prog 23=true:=by kernel_rfl
theorem sc3:scB Go.Proofs.Tryz.prog 3=true:=by kernel_rfl
theorem sc52:scB Go.Proofs.Tryz.prog 52=true:=by kernel_rfl
theorem sc89:scB Go.Proofs.Tryz.prog 89=true:=by kernel_rfl
theorem sc9:scB Go.Proofs.Tryz.prog 9=true:=by kernel_rfl
theorem sc90:scB Go.Proofs.Tryz.prog 90=true:=by kernel_rfl
theorem sc91:scB Go.Proofs.Tryz.prog 91=true:=by kernel_rfl
theorem sc92:scB Go.Proofs.Tryz.prog 92=true:=by kernel_rfl
theorem sc98:scB Go.Proofs.Tryz.prog 98=true:=by kernel_rfl
theorem KMg:szB Go.Proofs.Tryz.prog 123 2=true:=by kernel_rfl
theorem KMh:szB Go.Proofs.Tryz.prog 176 2=true:=by kernel_rfl
theorem KRz:szB Go.Proofs.Tryz.prog 178 10=true:=by kernel_rfl
theorem sz2:szB Go.Proofs.Tryz.prog 2 1=true:=by kernel_rfl
theorem sz22:szB Go.Proofs.Tryz.prog 22 1=true:=by kernel_rfl
theorem sz23:szB Go.Proofs.Tryz.prog 23 1=true:=by kernel_rfl
theorem sz29:szB Go.Proofs.Tryz.prog 29 4=true:=by kernel_rfl
theorem sz3:szB Go.Proofs.Tryz.prog 3 1=true:=by kernel_rfl
theorem sz43:szB Go.Proofs.Tryz.prog 43 1=true:=by kernel_rfl
theorem sz5:szB Go.Proofs.Tryz.prog 5 1=true:=by kernel_rfl
theorem sz52:szB Go.Proofs.Tryz.prog 52 1=true:=by kernel_rfl
theorem sz54:szB Go.Proofs.Tryz.prog 54 4=true:=by kernel_rfl
theorem sz89:szB Go.Proofs.Tryz.prog 89 1=true:=by kernel_rfl
theorem sz9:szB Go.Proofs.Tryz.prog 9 1=true:=by kernel_rfl
theorem sz90:szB Go.Proofs.Tryz.prog 90 1=true:=by kernel_rfl
theorem sz91:szB Go.Proofs.Tryz.prog 91 1=true:=by kernel_rfl
theorem sz92:szB Go.Proofs.Tryz.prog 92 1=true:=by kernel_rfl
theorem sz94:szB Go.Proofs.Tryz.prog 94 6=true:=by kernel_rfl
end Gx
namespace Gx
open Go
def Xg (x0:ByteArray) (x1:Int):M Sl:=M.fail
theorem KBA (x0:ByteArray) (x1:Int):ZG Go.Proofs.Tryz.prog 206 #[.string x0,.int .i64 x1] (fun(r:Sl)=>r.v) (Xg x0 x1):=fun w Q H=>H.elim
end Gx
namespace Gx
open Go Go.Proofs Go.Shelf Go.Sort Go.RowKit
def KD8:Go.Shelf.Ren:=⟨fun|119=>236|120=>220|129=>248|137=>100|138=>207|143=>208|151=>192|152=>219|160=>99|195=>222|197=>191|213=>211|217=>140|218=>223|219=>224|224=>237|225=>238|227=>135|228=>190|231=>133|232=>134|233=>136|234=>137|235=>138|236=>139|240=>102|246=>216|247=>262|260=>218|265=>225|266=>194|267=>239|271=>193|276=>141|283=>231|284=>232|285=>233|286=>234|287=>264|314=>252|317=>247|318=>249|319=>250|320=>251|321=>269|322=>270|337=>255|338=>256|n=>n,fun|0=>0|2=>2|3=>3|4=>4|5=>5|9=>9|20=>20|21=>21|37=>44|46=>210|51=>251|53=>216|70=>80|72=>82|75=>84|80=>88|105=>211|116=>166|117=>167|119=>242|124=>170|138=>244|139=>245|146=>254|164=>171|167=>265|171=>236|173=>239|175=>266|212=>250|213=>252|232=>261|233=>262|n=>n,fun|1=>0|3=>1|4=>2|17=>3|18=>4|19=>5|n=>n⟩
theorem KE1:Lays.n213 Go.Proofs.Tryz.prog KD8:={
 mixed:=by kernel_rfl
 f213:=Tryz.func211.trans (congrArg some (by kernel_rfl))
 f265:=Tryz.func225.trans (congrArg some (by kernel_rfl))
 t3:=Tryz.underlying3
 a3:=Tryz.isAgg3
 z3:=Tryz.sizeOf3
 v3:=Tryz.zeroValue3
 t9:=Tryz.underlying9
 a9:=Tryz.isAgg9
 z9:=Tryz.sizeOf9
 v9:=Tryz.zeroValue9}
theorem KE2:Lays.n219 Go.Proofs.Tryz.prog KD8:={
 mixed:=by kernel_rfl
 f217:=Tryz.func140.trans (congrArg some (by kernel_rfl))
 f219:=Tryz.func224.trans (congrArg some (by kernel_rfl))
 f224:=Tryz.func237.trans (congrArg some (by kernel_rfl))
 f225:=Tryz.func238.trans (congrArg some (by kernel_rfl))
 f266:=Tryz.func194.trans (congrArg some (by kernel_rfl))
 f267:=Tryz.func239.trans (congrArg some (by kernel_rfl))
 f314:=Tryz.func252.trans (congrArg some (by kernel_rfl))
 t3:=Tryz.underlying3
 a3:=Tryz.isAgg3
 z3:=Tryz.sizeOf3
 v3:=Tryz.zeroValue3
 t4:=Tryz.underlying4
 a4:=Tryz.isAgg4
 z4:=Tryz.sizeOf4
 v4:=Tryz.zeroValue4
 t5:=Tryz.underlying5
 a5:=Tryz.isAgg5
 z5:=Tryz.sizeOf5
 v5:=Tryz.zeroValue5
 t9:=Tryz.underlying9
 a9:=Tryz.isAgg9
 z9:=Tryz.sizeOf9
 v9:=Tryz.zeroValue9
 t46:=Tryz.underlying210
 a46:=Tryz.isAgg210
 z46:=Tryz.sizeOf210
 v46:=Tryz.zeroValue210
 t51:=Tryz.underlying251
 a51:=Tryz.isAgg251
 z51:=Tryz.sizeOf251
 v51:=Tryz.zeroValue251
 t146:=Tryz.underlying254
 a146:=Tryz.isAgg254
 z146:=Tryz.sizeOf254
 v146:=Tryz.zeroValue254
 g1:=by kernel_rfl}
theorem KE3:Lays.n217 Go.Proofs.Tryz.prog KD8:={
 mixed:=by kernel_rfl
 f217:=Tryz.func140.trans (congrArg some (by kernel_rfl))
 f266:=Tryz.func194.trans (congrArg some (by kernel_rfl))
 t3:=Tryz.underlying3
 a3:=Tryz.isAgg3
 z3:=Tryz.sizeOf3
 v3:=Tryz.zeroValue3
 t5:=Tryz.underlying5
 a5:=Tryz.isAgg5
 z5:=Tryz.sizeOf5
 v5:=Tryz.zeroValue5
 t9:=Tryz.underlying9
 a9:=Tryz.isAgg9
 z9:=Tryz.sizeOf9
 v9:=Tryz.zeroValue9}
theorem KDq:LaysC.n247 Go.Proofs.Tryz.prog KD8:={
 mixed:=by kernel_rfl
 f247:=Tryz.func262.trans (congrArg some (by kernel_rfl))
 f287:=Tryz.func264.trans (congrArg some (by kernel_rfl))
 f321:=Tryz.func269.trans (congrArg some (by kernel_rfl))
 f322:=Tryz.func270.trans (congrArg some (by kernel_rfl))
 t0:=Tryz.underlying0
 a0:=Tryz.isAgg0
 z0:=Tryz.sizeOf0
 v0:=Tryz.zeroValue0
 t2:=Tryz.underlying2
 a2:=Tryz.isAgg2
 z2:=Tryz.sizeOf2
 v2:=Tryz.zeroValue2
 t3:=Tryz.underlying3
 a3:=Tryz.isAgg3
 z3:=Tryz.sizeOf3
 v3:=Tryz.zeroValue3
 t4:=Tryz.underlying4
 a4:=Tryz.isAgg4
 z4:=Tryz.sizeOf4
 v4:=Tryz.zeroValue4
 t5:=Tryz.underlying5
 a5:=Tryz.isAgg5
 z5:=Tryz.sizeOf5
 v5:=Tryz.zeroValue5
 t9:=Tryz.underlying9
 a9:=Tryz.isAgg9
 z9:=Tryz.sizeOf9
 v9:=Tryz.zeroValue9
 t21:=Tryz.underlying21
 a21:=Tryz.isAgg21
 z21:=Tryz.sizeOf21
 v21:=Tryz.zeroValue21
 t37:=Tryz.underlying44
 a37:=Tryz.isAgg44
 z37:=Tryz.sizeOf44
 v37:=Tryz.zeroValue44
 t46:=Tryz.underlying210
 a46:=Tryz.isAgg210
 z46:=Tryz.sizeOf210
 v46:=Tryz.zeroValue210
 t53:=Tryz.underlying216
 a53:=Tryz.isAgg216
 z53:=Tryz.sizeOf216
 v53:=Tryz.zeroValue216
 t75:=Tryz.underlying84
 a75:=Tryz.isAgg84
 z75:=Tryz.sizeOf84
 v75:=Tryz.zeroValue84
 t167:=Tryz.underlying265
 a167:=Tryz.isAgg265
 z167:=Tryz.sizeOf265
 v167:=Tryz.zeroValue265
 t175:=Tryz.underlying266
 a175:=Tryz.isAgg266
 z175:=Tryz.sizeOf266
 v175:=Tryz.zeroValue266
 t80:=Tryz.underlying88
 a80:=Tryz.isAgg88
 z80:=Tryz.sizeOf88
 v80:=Tryz.zeroValue88
 i0:=by kernel_rfl
 i2:=by kernel_rfl
 i3:=by kernel_rfl
 i4:=by kernel_rfl
 i5:=by kernel_rfl
 i9:=by kernel_rfl
 i21:=by kernel_rfl
 i37:=by kernel_rfl
 i46:=by kernel_rfl
 i53:=by kernel_rfl
 i75:=by kernel_rfl
 i80:=by kernel_rfl
 i167:=by kernel_rfl
 i175:=by kernel_rfl
 c0:=by kernel_rfl
 c2:=by kernel_rfl
 c3:=by kernel_rfl
 c4:=by kernel_rfl
 c5:=by kernel_rfl
 c9:=by kernel_rfl
 c21:=by kernel_rfl
 c37:=by kernel_rfl
 c46:=by kernel_rfl
 c53:=by kernel_rfl
 c75:=by kernel_rfl
 c80:=by kernel_rfl
 c167:=by kernel_rfl
 c175:=by kernel_rfl}
theorem KE4:Lays.n160 Go.Proofs.Tryz.prog KD8:={
 mixed:=by kernel_rfl
 f119:=Tryz.func236.trans (congrArg some (by kernel_rfl))
 f120:=Tryz.func220.trans (congrArg some (by kernel_rfl))
 f137:=Tryz.func100.trans (congrArg some (by kernel_rfl))
 f151:=Tryz.func192.trans (congrArg some (by kernel_rfl))
 f152:=Tryz.func219.trans (congrArg some (by kernel_rfl))
 f160:=Tryz.func99.trans (congrArg some (by kernel_rfl))
 f197:=Tryz.func191.trans (congrArg some (by kernel_rfl))
 f217:=Tryz.func140.trans (congrArg some (by kernel_rfl))
 f224:=Tryz.func237.trans (congrArg some (by kernel_rfl))
 f225:=Tryz.func238.trans (congrArg some (by kernel_rfl))
 f227:=Tryz.func135.trans (congrArg some (by kernel_rfl))
 f228:=Tryz.func190.trans (congrArg some (by kernel_rfl))
 f231:=Tryz.func133.trans (congrArg some (by kernel_rfl))
 f232:=Tryz.func134.trans (congrArg some (by kernel_rfl))
 f233:=Tryz.func136.trans (congrArg some (by kernel_rfl))
 f234:=Tryz.func137.trans (congrArg some (by kernel_rfl))
 f235:=Tryz.func138.trans (congrArg some (by kernel_rfl))
 f236:=Tryz.func139.trans (congrArg some (by kernel_rfl))
 f260:=Tryz.func218.trans (congrArg some (by kernel_rfl))
 f266:=Tryz.func194.trans (congrArg some (by kernel_rfl))
 f271:=Tryz.func193.trans (congrArg some (by kernel_rfl))
 t0:=Tryz.underlying0
 a0:=Tryz.isAgg0
 z0:=Tryz.sizeOf0
 v0:=Tryz.zeroValue0
 t3:=Tryz.underlying3
 a3:=Tryz.isAgg3
 z3:=Tryz.sizeOf3
 v3:=Tryz.zeroValue3
 t4:=Tryz.underlying4
 a4:=Tryz.isAgg4
 z4:=Tryz.sizeOf4
 v4:=Tryz.zeroValue4
 t5:=Tryz.underlying5
 a5:=Tryz.isAgg5
 z5:=Tryz.sizeOf5
 v5:=Tryz.zeroValue5
 t9:=Tryz.underlying9
 a9:=Tryz.isAgg9
 z9:=Tryz.sizeOf9
 v9:=Tryz.zeroValue9
 t21:=Tryz.underlying21
 a21:=Tryz.isAgg21
 z21:=Tryz.sizeOf21
 v21:=Tryz.zeroValue21
 t46:=Tryz.underlying210
 a46:=Tryz.isAgg210
 z46:=Tryz.sizeOf210
 v46:=Tryz.zeroValue210
 t105:=Tryz.underlying211
 a105:=Tryz.isAgg211
 z105:=Tryz.sizeOf211
 v105:=Tryz.zeroValue211
 t116:=Tryz.underlying166
 a116:=Tryz.isAgg166
 z116:=Tryz.sizeOf166
 t117:=Tryz.underlying167
 a117:=Tryz.isAgg167
 z117:=Tryz.sizeOf167
 v117:=Tryz.zeroValue167
 t119:=Tryz.underlying242
 a119:=Tryz.isAgg242
 z119:=Tryz.sizeOf242
 t124:=Tryz.underlying170
 a124:=Tryz.isAgg170
 z124:=Tryz.sizeOf170
 v124:=Tryz.zeroValue170
 t138:=Tryz.underlying244
 a138:=Tryz.isAgg244
 z138:=Tryz.sizeOf244
 v138:=Tryz.zeroValue244
 t139:=Tryz.underlying245
 a139:=Tryz.isAgg245
 z139:=Tryz.sizeOf245
 v139:=Tryz.zeroValue245
 g3:=by kernel_rfl
 g4:=by kernel_rfl}
theorem KE5:Lays.n138 Go.Proofs.Tryz.prog KD8:={
 mixed:=by kernel_rfl
 f138:=Tryz.func207.trans (congrArg some (by kernel_rfl))
 f143:=Tryz.func208.trans (congrArg some (by kernel_rfl))
 f195:=Tryz.func222.trans (congrArg some (by kernel_rfl))
 f217:=Tryz.func140.trans (congrArg some (by kernel_rfl))
 f218:=Tryz.func223.trans (congrArg some (by kernel_rfl))
 f219:=Tryz.func224.trans (congrArg some (by kernel_rfl))
 f224:=Tryz.func237.trans (congrArg some (by kernel_rfl))
 f225:=Tryz.func238.trans (congrArg some (by kernel_rfl))
 f266:=Tryz.func194.trans (congrArg some (by kernel_rfl))
 f267:=Tryz.func239.trans (congrArg some (by kernel_rfl))
 f314:=Tryz.func252.trans (congrArg some (by kernel_rfl))
 t0:=Tryz.underlying0
 a0:=Tryz.isAgg0
 z0:=Tryz.sizeOf0
 v0:=Tryz.zeroValue0
 t3:=Tryz.underlying3
 a3:=Tryz.isAgg3
 z3:=Tryz.sizeOf3
 v3:=Tryz.zeroValue3
 t4:=Tryz.underlying4
 a4:=Tryz.isAgg4
 z4:=Tryz.sizeOf4
 v4:=Tryz.zeroValue4
 t5:=Tryz.underlying5
 a5:=Tryz.isAgg5
 z5:=Tryz.sizeOf5
 v5:=Tryz.zeroValue5
 t9:=Tryz.underlying9
 a9:=Tryz.isAgg9
 z9:=Tryz.sizeOf9
 v9:=Tryz.zeroValue9
 t46:=Tryz.underlying210
 a46:=Tryz.isAgg210
 z46:=Tryz.sizeOf210
 v46:=Tryz.zeroValue210
 t51:=Tryz.underlying251
 a51:=Tryz.isAgg251
 z51:=Tryz.sizeOf251
 v51:=Tryz.zeroValue251
 t146:=Tryz.underlying254
 a146:=Tryz.isAgg254
 z146:=Tryz.sizeOf254
 v146:=Tryz.zeroValue254
 g1:=by kernel_rfl}
def Z4 (x0 x1:ByteArray):M Int:=M.pure (Lib.compareBytes x0.data.toList x1.data.toList)
theorem YA (x0 x1:ByteArray):ZG Go.Proofs.Tryz.prog 211 #[.string x0,.string x1] (fun(r:Int)=>.int .i64 r) (Z4 x0 x1):=by
 intro w Q H
 refine(Any.bytealg_CompareString KE1 x0 x1 w).mono ?_
 rintro e w' ⟨rfl,rfl⟩
 exact⟨_,rfl,H,Rest.refl _⟩
def UW (x0 x1:ByteArray):M Int:=
 ⟨fun h Q=>∃c:UInt8,x1=⟨#[c]⟩∧Q (Lib.indexByte x0.data.toList c) h,fun hq ⟨c,h1,h2⟩=>⟨c,h1,hq _ _ h2⟩⟩
theorem XN (x0 x1:ByteArray):ZG Go.Proofs.Tryz.prog 224 #[.string x0,.string x1] (fun(r:Int)=>.int .i64 r) (UW x0 x1):=by
 intro w Q ⟨c,h1,h2⟩
 subst h1
 refine(Any.stringslite_Index_one KE2 x0 c w).mono ?_
 rintro e w' ⟨rfl,rfl⟩
 exact⟨_,rfl,h2,Rest.refl _⟩
def Zf (x0:ByteArray) (x1:Int):M Int:=M.pure (Lib.indexByte x0.data.toList x1.toNat.toUInt8)
theorem YB (x0:ByteArray) (x1:Int):ZG Go.Proofs.Tryz.prog 140 #[.string x0,.int .u8 x1] (fun(r:Int)=>.int .i64 r) (Zf x0 x1):=by
 intro w Q H
 refine(Any.stringslite_IndexByte KE3 x0 x1 w).mono ?_
 rintro e w' ⟨rfl,rfl⟩
 exact⟨_,rfl,H,Rest.refl _⟩
def Um (x0:ByteArray) (x1:Int) (x2:Int):M (Int×Value):=
 ⟨fun h Q=>x1=10∧x2=64∧x0.size≤9223372036854775806∧∀h':Heap,h.size≤h'.size→(∀i,i<h.size→h'[i]?=h[i]?)→(match Lib.parseIntB 64 x0.data.toList with| .ok v=>Q (v,.nilIface) h'| .range=>Q (Lib.intSat 64 x0.data.toList,.iface 265 (.int .i64 1)) h'|_=>Q (0,.iface 265 (.int .i64 2)) h'),
  fun hq ⟨h0,h1,h2,h3⟩=>⟨h0,h1,h2,fun h' a b=>by have h5:=h3 h' a b;revert h5;cases Lib.parseIntB 64 x0.data.toList<;>exact fun h5=>hq _ _ h5⟩⟩
theorem Xh (x0:ByteArray) (x1:Int) (x2:Int):ZG Go.Proofs.Tryz.prog 262 #[.string x0,.int .i64 x1,.int .i64 x2] (fun(r:Int×Value)=>.tuple #[.int .i64 r.1,r.2]) (Um x0 x1 x2):=by
 intro w Q ⟨h0,h1,h2,h4⟩
 subst h0
 subst h1
 refine(Any.internal_strconv_ParseInt_10_all64 KDq x0 h2 w).mono ?_
 rintro e w' ⟨rfl,hw⟩
 have hb:w.heap.size≤w'.heap.size∧(∀i,i<w.heap.size→w'.heap[i]?=w.heap[i]?)∧Rest w w':=by
  rcases hw with rfl|⟨t,rfl⟩
  ·exact⟨Nat.le_refl _,fun _ _=>rfl,Rest.refl _⟩
  ·have hb:=Lib.bytesWorld_below w (5) t
   exact⟨hb.size,hb.block,⟨hb.os,hb.output,hb.tape,Nat.le_succ w.drawn⟩⟩
 obtain⟨b1,b2,b3⟩:=hb
 have h5:=h4 _ b1 b2
 cases hp:Lib.parseIntB 64 x0.data.toList<;>(rw [hp]at h5;exact⟨_,rfl,h5,b3⟩)
def WZ (x0:ByteArray) (x1:ByteArray):M (Option Addr):=M.fail
theorem No (x0:ByteArray) (x1:ByteArray):ZG Go.Proofs.Tryz.prog 265 #[.string x0,.string x1] (fun(r:Option Addr)=>.pointer r) (WZ x0 x1):=fun w Q H=>H.elim
def YP (x0:ByteArray) (x1:ByteArray) (x2:Int):M (Option Addr):=M.fail
theorem zR (x0:ByteArray) (x1:ByteArray) (x2:Int):ZG Go.Proofs.Tryz.prog 267 #[.string x0,.string x1,.int .i64 x2] (fun(r:Option Addr)=>.pointer r) (YP x0 x1 x2):=fun w Q H=>H.elim
def WL (x0:ByteArray) (x1:ByteArray) (x2:Int):M (Option Addr):=M.fail
theorem NZ (x0:ByteArray) (x1:ByteArray) (x2:Int):ZG Go.Proofs.Tryz.prog 268 #[.string x0,.string x1,.int .i64 x2] (fun(r:Option Addr)=>.pointer r) (WL x0 x1 x2):=fun w Q H=>H.elim
def KF6 (h:Heap):Prop:=∃fz ty,h[3]?=some (.cells (Lib.pow10Tab.map fun z=>Value.int .u64 z).toArray ty fz)
def KKi (h:Heap):Prop:=∃cs ty fz,h[5]?=some (.cells cs ty fz)∧cs[15]?=some (.int .u8 4)
def Wh (x0 x1:ByteArray):M ByteArray:=
 ⟨fun h Q=>2≤x1.size∧x1.size<4294967281∧0<x0.size∧x0.size≤9223372036854775807∧(∀(j:Nat) b,x1.data.toList[j]?=some b→b.toNat<128)∧∀h':Heap,h.size≤h'.size→(∀i,i<h.size→h'[i]?=h[i]?)→Q ⟨(Lib.trimS x0.data.toList x1.data.toList).toArray⟩ h',
  fun hq ⟨h0,h1,h2,h3,h4,h5⟩=>⟨h0,h1,h2,h3,h4,fun h' a b=>hq _ _ (h5 h' a b)⟩⟩
theorem KDr (x0 x1:ByteArray):ZG Go.Proofs.Tryz.prog 99 #[.string x0,.string x1] (fun(r:ByteArray)=>.string r) (Wh x0 x1):=by
 intro w Q ⟨h0,h1,h2,h3,h4,h5⟩
 have h116:(Go.Proofs.Tryz.prog.info? (166)).map (fun i=>(i.zero,i.size))=some (some (.agg (Array.replicate 256 (.bool false))),256):=by kernel_rfl
 refine(Any.strings_Trim_set KE4 (zero_of_info h116).1 (zero_of_info h116).2 x0 x1 w h0 h2 h3 h1 h4).mono ?_
 rintro e w' ⟨rfl,q,rfl⟩
 refine⟨_,rfl,h5 _ ?_ ?_,⟨rfl,rfl,rfl,Nat.le_add_right _ _⟩⟩
 ·show w.heap.size≤((w.heap.push _).push _).size
  simp;omega
 ·intro i hi
  show((w.heap.push _).push _)[i]?=_
  rw [Array.getElem?_push,if_neg (by rw [Array.size_push];omega),Array.getElem?_push,if_neg (by omega)]
def NB (x0 x1:ByteArray):M Int:=
 ⟨fun h Q=>∃c:UInt8,x1=⟨#[c]⟩∧Q (Lib.countByte x0.data.toList c) h,fun hq ⟨c,h1,h2⟩=>⟨c,h1,hq _ _ h2⟩⟩
theorem KCi (x0 x1:ByteArray):ZG Go.Proofs.Tryz.prog 207 #[.string x0,.string x1] (fun(r:Int)=>.int .i64 r) (NB x0 x1):=by
 intro w Q ⟨c,h1,h2⟩
 subst h1
 refine(Any.strings_Count_one KE5 x0 c w).mono ?_
 rintro e w' ⟨rfl,rfl⟩
 exact⟨_,rfl,h2,Rest.refl _⟩
abbrev gER:Nat:=7
end Gx
namespace Gx
open Go
def Xi (x0:Option Addr):M (Value):=do
 let Xx2←mkB Y0 #[.pointer x0]
 M.pure (Value.func (.func WI) #[] #[.pointer (some Xx2)])
theorem KBB (x0:Option Addr):ZG Go.Proofs.Tryz.prog 45 #[.pointer x0] (fun(r:Value)=>r) (Xi x0):=
 KU [] [0] [.V] [(0,.P x0)] .o Go.Proofs.Tryz.func45 rfl rfl ⟨rfl,trivial⟩ rfl (by kernel_rfl) (by kernel_rfl)
def Jw (Cc3:Option Addr):M (Bool):=do
 let Xx5←nilP Cc3
 let Xx6←nilP Cc3
 let Xx7←ldI .i64 ((Xx5).add 1)
 let Xx8←ldS ((Xx6).add 0)
 M.pure (decide (Xx7<(Xx8.size:Int)))
def Jx (self1:(Unit)→M (Bool)) (Cc24:Option Addr) (Xx23:Bool):M (Bool):=do
 M.ite Xx23 (do
  let Xx25←nilP Cc24
  let Xx26←ldI .i64 ((Xx25).add 1)
  let Xx27←nilP Cc24
  stV ((Xx27).add 1) (.int .i64 (IntKind.wrap .i64 (Xx26+1)))
  self1 ()
  ) (do
  Jw Cc24
  )
def Vy (Cc9:Option Addr) (self1:(Unit)→M (Bool)):(Unit)→M (Bool):=fun s=>match s with
 |()=>do
  let Xx13←nilP Cc9
  let Xx14←nilP Cc9
  let Xx15←ldI .i64 ((Xx13).add 1)
  let Xx16←ldS ((Xx14).add 0)
  M.ite (decide (Xx15<(Xx16.size:Int))) (do
   let Xx18←nilP Cc9
   let Xx19←nilP Cc9
   let Xx20←ldS ((Xx18).add 0)
   let Xx21←ldI .i64 ((Xx19).add 1)
   let Xx22←ixS Xx20 Xx21
   M.ite (Xx22==32) (do
    Jx self1 Cc9 (Xx22==32)
    ) (do
    Jx self1 Cc9 (Xx22==10)
    )
   ) (do
   Jw Cc9
   )
def Ud (x0:Option Addr):M (Bool):=do
 M.loop (Vy x0) ()
theorem XG (x0:Option Addr):ZG Go.Proofs.Tryz.prog 46 #[.pointer x0] (fun(r:Bool)=>.bool r) (Ud x0):=
 KU [] [0,3,7,13,17,25,32,36] [.B] [(0,.P x0)] (.q .o (.b (.q .o (.q (.b (.l [(0,.P)] [] (fun(t:Option Addr)=>Vy t) (fun self1=>.q (.q (.r [0,1,2,4,0,16,32,64,128,264] [0,1,2,4,0,16,32,64,128,264] [0,1,3,7,0,16,48,112,240,511] (.pu 0 (.pu 1 (.pu 2 (.pu 4 (.pu 5 (.pu 6 (.pu 3 (.pu 7 (.pu 8 (.pu 9 (.st [9] .dn)))))))))))) .o) (.b (.q (.r [0,1,2,4,0,16,32,64,136] [0,1,2,4,0,16,32,64,136] [0,1,3,7,0,16,48,112,255] (.pu 0 (.pu 1 (.pu 2 (.pu 4 (.pu 5 (.pu 6 (.pu 3 (.pu 7 (.pu 8 (.st [8] .dn))))))))))) (.b (.q .o (.j [(0,.P),(22,.B)] (fun(t:Option Addr×Bool)=>Jx self1 t.1 t.2) .o)))))))) (.j [(0,.P)] (fun(t:Option Addr)=>Jw t) (.q (.r [0,1,2,4,0,16,32,64,128,264,1023] [0,1,2,4,0,16,32,64,128,264,512] [0,1,3,7,0,16,48,112,240,511,1023] (.pu 0 (.pu 1 (.pu 2 (.pu 4 (.pu 5 (.pu 6 (.pu 3 (.pu 7 (.pu 8 (.pu 9 (.pu 10 (.st [9,10] .dn))))))))))))) .o)))))) Go.Proofs.Tryz.func46 rfl rfl ⟨rfl,trivial⟩ rfl (by kernel_rfl) (by kernel_rfl)
theorem KQo:GS Go.Proofs.Tryz.f13 8 [[],[0],[],[1,2,0,1,2],[3,0,1,2,3]] [[],[0],[],[1],[]] [[],[0],[],[0,1,2],[0,1,2,3]]=true:=by kernel_rfl
def N8 (Cc21:Addr) (Cc22:Addr) (Cc23:Addr) (Cc24:Addr) (lp1:Nat):(Array Value)→M Nat:=fun x=>match x with
 |Xx25=>do
  let Xx26←mkB KX (#[.int .i64 0,.string ByteArray.empty,.int .i64 0,.int .i64 0]:Array Value)
  M.need (Xx25.size=4)
  stG Xx26 Xx25
  let _←beg lp1
  let Xx30←ldL Cc24
  M.ite ((Xx30.len:Int)==4096) (do
   let Xx32←ldI .i64 ((Xx26).add 3)
   stV Cc21 ((Sl.nil:Sl).v)
   chk (fun h:Heap=>(KM h ((Xx26).add 3)=some (.int .i64 Xx32)))
   stV Cc22 (.int .i64 Xx32)
   stV Cc23 (.int .i64 3)
   M.pure 1
   ) (do
   let Xx36←ldL Cc24
   let Xx37←ldG 4 Xx26
   let y_39←XI 4 1 (#[.int .i64 0,.string ByteArray.empty,.int .i64 0,.int .i64 0]:Array Value) [(0,.agg Xx37)]
   let Xx38←bdL KX 1 y_39
   let Xx40←apL KX 4 40 (#[.int .i64 0,.string ByteArray.empty,.int .i64 0,.int .i64 0]:Array Value) Xx36 Xx38
   stV Cc24 ((Xx40:Sl).v)
   M.pure 0
   )
theorem KO4:GS Go.Proofs.Tryz.f13 11 [[],[0],[1],[2],[],[3,4,0,1,2,3,4],[5,0,1,2,3,4,5]] [[],[0],[1],[2],[],[3],[]] [[],[0],[0,1],[0,1,2],[],[0,1,2,3,4],[0,1,2,3,4,5]]=true:=by kernel_rfl
def KCj (x0:ByteArray):M (Sl×Int×Int):=do
 let Xx2←mkB Uz (#[.slice none 0 0]:Array Value)
 let Xx3←mkB VE (#[.int .i64 0]:Array Value)
 let Xx4←mkB GD (#[.int .i64 0]:Array Value)
 M.ite (decide ((x0.size:Int)>16384)) (do
  stV Xx2 ((Sl.nil:Sl).v)
  stV Xx3 (.int .i64 0)
  stV Xx4 (.int .i64 3)
  let _←shut ([])
  let Rr11←ldL Xx2
  let Rr12←ldI .i64 Xx3
  let Rr13←ldI .i64 Xx4
  M.pure (Rr11,Rr12,Rr13)
  ) (do
  let Xx15←mkB qn (#[.string x0,.int .i64 0]:Array Value)
  let Xx17←mkB Uz (#[.slice none 0 0]:Array Value)
  let Xx20←Xi (some Xx15)
  let j_42←rgF Go.Proofs.Tryz.prog (fun x:Array Value=>[.agg x]) [.ret] (N8 Xx2 Xx3 Xx4 Xx17) Xx20
  M.ite (decide (j_42.1=1)) (do
   let _←shut (j_42.2::[])
   let Rr43←ldL Xx2
   let Rr44←ldI .i64 Xx3
   let Rr45←ldI .i64 Xx4
   M.pure (Rr43,Rr44,Rr45)
   ) (do
   let Xx48←Ud (some Xx15)
   M.ite Xx48 (do
    let Xx50←nilP (some Xx15)
    let Xx51←ldI .i64 ((Xx50).add 1)
    stV Xx2 ((Sl.nil:Sl).v)
    chk (fun h:Heap=>(KM h ((Xx50).add 1)=some (.int .i64 Xx51)))
    stV Xx3 (.int .i64 Xx51)
    stV Xx4 (.int .i64 150)
    let _←shut (j_42.2::[])
    let Rr55←ldL Xx2
    let Rr56←ldI .i64 Xx3
    let Rr57←ldI .i64 Xx4
    M.pure (Rr55,Rr56,Rr57)
    ) (do
    let Xx59←ldL Xx17
    stV Xx2 ((Xx59:Sl).v)
    stV Xx3 (.int .i64 (x0.size:Int))
    stV Xx4 (.int .i64 0)
    let _←shut (j_42.2::[])
    let Rr63←ldL Xx2
    let Rr64←ldI .i64 Xx3
    let Rr65←ldI .i64 Xx4
    M.pure (Rr63,Rr64,Rr65)
    )
   )
  )
theorem KKj (x0:ByteArray):ZG Go.Proofs.Tryz.prog 13 #[.string x0] (fun(r:Sl×Int×Int)=>.tuple #[(r.1:Sl).v,.int .i64 r.2.1,.int .i64 r.2.2]) (KCj x0):=by
 refine KKK [(0,.string x0)] Go.Proofs.Tryz.func13 rfl rfl (Nat.le_of_ble_eq_true rfl) (Z8 ⟨rfl,trivial⟩) (fun w0 w Q R a hret hE hR H=>?_)
 unfold KCj at H
 refine KR (fun K hK_1=>?_)
 refine KC ?_
 obtain⟨Xx2,qXx2,H⟩:=H
 refine JM (v:=.pointer (some Xx2)) rfl rfl hE rfl hR (Z0 zr22 qXx2) (fun a w hE hR hh=>?_)
 replace H:=M.at hh H;clear hh
 obtain⟨Xx3,qXx3,H⟩:=H
 refine JM (v:=.pointer (some Xx3)) rfl rfl hE rfl hR (Z0 zr3 qXx3) (fun a w hE hR hh=>?_)
 replace H:=M.at hh H;clear hh
 obtain⟨Xx4,qXx4,H⟩:=H
 refine JM (v:=.pointer (some Xx4)) rfl rfl hE rfl hR (Z0 zr23 qXx4) (fun a w hE hR hh=>?_)
 replace H:=M.at hh H;clear hh
 refine KN ?_
 refine hK_1 _ _ ?_
 refine KR (fun K hK_5=>?_)
 refine KR (fun K hK_6=>?_)
 refine KC ?_
 refine KB (v:=.string x0) rfl rfl hE rfl (KF hE rfl) (fun a hE=>?_)
 refine KB (v:=.int .i64 (x0.size:Int)) rfl rfl hE rfl (Yg hE rfl un9) (fun a hE=>?_)
 refine KB (v:=.bool (decide ((x0.size:Int)>16384))) rfl rfl hE rfl (Kk hE rfl rfl Ki qv) (fun a hE=>?_)
 refine KN ?_
 refine hK_6 _ _ ?_
 refine ZA (decide ((x0.size:Int)>16384)) hE rfl (fun hb=>?_) (fun hb=>?_)
 ·replace H:=M.ite_t hb H
  refine KR (fun K hK_7=>?_)
  refine KC ?_
  obtain⟨u_8,qu_8,H⟩:=H
  refine JA rfl rfl hE hR (ZB hE rfl rfl sz22 qu_8) (fun a w hE hR hh=>?_)
  replace H:=M.at hh H;clear hh
  obtain⟨u_9,qu_9,H⟩:=H
  refine JA rfl rfl hE hR (ZB hE rfl rfl sz3 qu_9) (fun a w hE hR hh=>?_)
  replace H:=M.at hh H;clear hh
  obtain⟨u_10,qu_10,H⟩:=H
  refine JA rfl rfl hE hR (ZB hE rfl rfl sz23 qu_10) (fun a w hE hR hh=>?_)
  replace H:=M.at hh H;clear hh
  refine KN ?_
  refine hK_7 _ _ ?_
  refine Uv ?_
  refine hret _ _ _ _ _ hE hR (M.unbind H) (fun w hR H=>?_)
  obtain⟨Rr11,qRr11,H⟩:=H
  obtain⟨Rr12,qRr12,H⟩:=H
  obtain⟨Rr13,qRr13,H⟩:=H
  exact⟨(Rr11,Rr12,Rr13),_,Kn hE rfl (RV.cell rfl sc22 qRr11 (RV.cell rfl sc3 qRr12 (RV.cell rfl sc23 qRr13 RV.nil))),rfl,H⟩
 ·replace H:=M.ite_f hb H
  refine Zq ?_
  refine hK_5 _ _ ?_
  refine KR (fun K hK_14=>?_)
  refine KC ?_
  refine KB (v:=.string x0) rfl rfl hE rfl (KF hE rfl) (fun a hE=>?_)
  refine KB (v:=.agg (#[.string x0,.int .i64 0]:Array Value)) rfl rfl hE rfl (Vs hE rfl zr70 pl70 (by rfl)) (fun a hE=>?_)
  obtain⟨Xx15,qXx15,H⟩:=H
  refine JM (v:=.pointer (some Xx15)) rfl rfl hE rfl hR (KFj hE rfl qXx15) (fun a w hE hR hh=>?_)
  replace H:=M.at hh H;clear hh
  refine KB (v:=.pointer (some Xx15)) rfl rfl hE rfl (KQ hE rfl) (fun a hE=>?_)
  refine KN ?_
  refine hK_14 _ _ ?_
  refine KR (fun K hK_16=>?_)
  refine KC ?_
  obtain⟨Xx17,qXx17,H⟩:=H
  refine JM (v:=.pointer (some Xx17)) rfl rfl hE rfl hR (Z0 zr22 qXx17) (fun a w hE hR hh=>?_)
  replace H:=M.at hh H;clear hh
  refine KN ?_
  refine hK_16 _ _ ?_
  refine KR (fun K hK_18=>?_)
  refine KR (fun K hK_19=>?_)
  refine KC ?_
  refine KB (v:=.pointer (some Xx15)) rfl rfl hE rfl (KF hE rfl) (fun a hE=>?_)
  refine Zd hE hR KAJ rfl (KBB (some Xx15)) (M.unbind H) (fun Xx20 a w ea hR H=>?_)
  have hE:=Env.put_some hE rfl ea;clear ea
  refine KN ?_
  refine hK_19 _ _ ?_
  refine J6 ?_
  refine KMS (js:=[.ret]) (enc:=(fun x:Array Value=>[.agg x])) (Y:=(N8 Xx2 Xx3 Xx4 Xx17)) hE hR rfl (fun x=>rfl) rfl (M.unbind H) (fun lp1 Xx25 Q w0 Rr hfin a w hE hR H=>?_) (fun j_42 a w hE hR H=>?_)
  ·skip
   replace hE:Env (⟨35,[]⟩:Frm) a [(2,.pointer (some Xx2)),(3,.pointer (some Xx3)),(4,.pointer (some Xx4)),(6,.pointer (some Xx17)),(16,.agg Xx25)]:=Env.cut hE (.cons rfl (.cons rfl (.cons rfl (.cons rfl (.cons rfl Subs.nil)))))
   replace H:(N8 Xx2 Xx3 Xx4 Xx17 lp1 Xx25).wp w.heap Q:=H
   unfold N8 at H
   refine KC ?_
   obtain⟨Xx26,qXx26,H⟩:=H
   refine JM (v:=.pointer (some Xx26)) rfl rfl hE rfl hR (Z0 zr29 qXx26) (fun a w hE hR hh=>?_)
   replace H:=M.at hh H;clear hh
   obtain⟨qz,H⟩:=H
   obtain⟨u_27,qu_27,H⟩:=H
   refine JA rfl rfl hE hR (Kh hE rfl rfl sz29 qz qu_27) (fun a w hE hR hh=>?_)
   replace H:=M.at hh H;clear hh
   refine KN ?_
   refine KRf hR H (fun w hR H=>?_)
   refine J6 ?_
   refine KR (fun K hK_28=>?_)
   refine KR (fun K hK_29=>?_)
   refine KC ?_
   obtain⟨Xx30,qXx30,H⟩:=H
   refine KB (v:=(Xx30:Sl).v) rfl rfl hE rfl (KS hE rfl sc22 qXx30) (fun a hE=>?_)
   refine KB (v:=.int .i64 (Xx30.len:Int)) rfl rfl hE rfl (KAy hE rfl 29 un22) (fun a hE=>?_)
   refine KB (v:=.bool ((Xx30.len:Int)==4096)) rfl rfl hE rfl (Kk hE rfl rfl Ki W9) (fun a hE=>?_)
   refine KN ?_
   refine hK_29 _ _ ?_
   refine ZA ((Xx30.len:Int)==4096) hE rfl (fun hb=>?_) (fun hb=>?_)
   ·replace H:=M.ite_t hb H
    refine KR (fun K hK_31=>?_)
    obtain⟨Xx32,qXx32,H⟩:=H
    have hT:=VT KQo rfl rfl
    refine Jv (fun w:World=>(fun h:Heap=>(KM h ((Xx26).add 3)=some (.int .i64 Xx32))) w.heap) [3,4] #[false,false,false,false,false] mo hR rfl rfl (fun w' e=>by rw [e];exact qXx32) (fun w hh hR hs=>?_)
    replace H:=M.at hh H;clear hh
    refine KG (i:=0) (v:=.pointer (some ((Xx26).add 3))) #[true,false,false,false,false] rfl rfl hT (by kernel_rfl) hE rfl (KA rfl) (fun w=>KD hE rfl KNx) (fun a hE=>?_)
    refine Zs (i:=1) (v:=.int .i64 Xx32) #[true,true,false,false,false] rfl rfl hT (by kernel_rfl) hE rfl (KA rfl) hs (fun w s=>KS hE rfl sc3 s) (fun a hE=>?_)
    obtain⟨u_33,qu_33,H⟩:=H
    obtain⟨_,sA,H⟩:=H
    refine KJF (i:=2) #[true,true,true,false,false] rfl rfl hT (by kernel_rfl) rfl hE hR (KA rfl) (ZB hE rfl rfl sz22 qu_33)  (fun w' e=>by rw [e];exact sA) (fun a w hE hR hh hs=>?_)
    replace H:=M.at hh H;clear hh
    obtain⟨u_34,qu_34,H⟩:=H
    refine YD (i:=3) #[true,true,true,true,false] rfl rfl hT (by kernel_rfl) rfl hE hR (KA rfl) (ZB hE rfl rfl sz3 qu_34)  (fun a w hE hR hh=>?_)
    replace H:=M.at hh H;clear hh
    obtain⟨u_35,qu_35,H⟩:=H
    refine YD (i:=4) #[true,true,true,true,true] rfl rfl hT (by kernel_rfl) rfl hE hR (KA rfl) (ZB hE rfl rfl sz23 qu_35)  (fun a w hE hR hh=>?_)
    replace H:=M.at hh H;clear hh
    refine VD hT (by kernel_rfl) ?_
    refine hK_31 _ _ ?_
    refine Uv ?_
    exact⟨0,rfl,hfin 1 _ _ hR H⟩
   ·replace H:=M.ite_f hb H
    refine Zq ?_
    refine hK_28 _ _ ?_
    refine KC ?_
    obtain⟨Xx36,qXx36,H⟩:=H
    refine KB (v:=(Xx36:Sl).v) rfl rfl hE rfl (KS hE rfl sc22 qXx36) (fun a hE=>?_)
    obtain⟨Xx37,qXx37,H⟩:=H
    refine KB (v:=.agg Xx37) rfl rfl hE rfl (Ui hE rfl ag29 qXx37) (fun a hE=>?_)
    obtain⟨y_39,qy_39,H⟩:=H
    obtain⟨Xx38,qXx38,H⟩:=H
    refine JM (v:=(Xx38:Sl).v) rfl rfl hE rfl hR (J4 hE rfl un22 sz29 zr29 rfl qy_39 qXx38) (fun a w hE hR hh=>?_)
    replace H:=M.at hh H;clear hh
    refine t_ex (fun Xx40=>(Xx40:Sl).v) rfl rfl hR (M.unbind H) (fun Q H=>GA hE rfl rfl ap22 H) (fun Xx40 a w ea hR H=>?_)
    have hE:=Env.put_some hE rfl ea;clear ea
    obtain⟨u_41,qu_41,H⟩:=H
    refine JA rfl rfl hE hR (ZB hE rfl rfl sz22 qu_41) (fun a w hE hR hh=>?_)
    replace H:=M.at hh H;clear hh
    refine KN ?_
    exact hfin 0 _ _ hR H
  ·skip
   replace hE:Env (⟨35,(j_42.2::[])⟩:Frm) a [(0,.string x0),(2,.pointer (some Xx2)),(3,.pointer (some Xx3)),(4,.pointer (some Xx4)),(5,.pointer (some Xx15)),(6,.pointer (some Xx17))]:=Env.cut hE (.cons rfl (.cons rfl (.cons rfl (.cons rfl (.cons rfl (.cons rfl Subs.nil))))))
   refine KMQ (fun hj=>?_) (fun hj=>?_)
   ·replace H:=M.ite_t (decide_eq_true hj) H
    refine Uv ?_
    refine hret _ _ _ _ _ hE hR (M.unbind H) (fun w hR H=>?_)
    obtain⟨Rr43,qRr43,H⟩:=H
    obtain⟨Rr44,qRr44,H⟩:=H
    obtain⟨Rr45,qRr45,H⟩:=H
    exact⟨(Rr43,Rr44,Rr45),_,Kn hE rfl (RV.cell rfl sc22 qRr43 (RV.cell rfl sc3 qRr44 (RV.cell rfl sc23 qRr45 RV.nil))),rfl,H⟩
   ·replace H:=M.ite_f (decide_eq_false hj) H
    refine KOh ?_
    refine hK_18 _ _ ?_
    refine KR (fun K hK_46=>?_)
    refine KR (fun K hK_47=>?_)
    refine KC ?_
    refine KB (v:=.pointer (some Xx15)) rfl rfl hE rfl (KF hE rfl) (fun a hE=>?_)
    refine Zd hE hR Yk rfl (XG (some Xx15)) (M.unbind H) (fun Xx48 a w ea hR H=>?_)
    have hE:=Env.put_some hE rfl ea;clear ea
    refine KN ?_
    refine hK_47 _ _ ?_
    refine ZA Xx48 hE rfl (fun hb=>?_) (fun hb=>?_)
    ·replace H:=M.ite_t hb H
     refine KR (fun K hK_49=>?_)
     obtain⟨Xx50,qXx50,H⟩:=H
     obtain⟨Xx51,qXx51,H⟩:=H
     have hT:=VT KO4 rfl rfl
     refine Jv (fun w:World=>(fun h:Heap=>(KM h ((Xx50).add 1)=some (.int .i64 Xx51))) w.heap) [5,6] #[false,false,false,false,false,false,false] mo hR rfl rfl (fun w' e=>by rw [e];exact qXx51) (fun w hh hR hs=>?_)
     replace H:=M.at hh H;clear hh
     refine KG (i:=0) (v:=.pointer (some Xx15)) #[true,false,false,false,false,false,false] rfl rfl hT (by kernel_rfl) hE rfl (KA rfl) (fun w=>KF hE rfl) (fun a hE=>?_)
     refine KG (i:=1) (v:=.pointer (some Xx50)) #[true,true,false,false,false,false,false] rfl rfl hT (by kernel_rfl) hE rfl (KA rfl) (fun w=>KO hE (Zu rfl (congrArg Value.pointer qXx50))) (fun a hE=>?_)
     refine KG (i:=2) (v:=.pointer (some ((Xx50).add 1))) #[true,true,true,false,false,false,false] rfl rfl hT (by kernel_rfl) hE rfl (KA rfl) (fun w=>KD hE rfl KF5) (fun a hE=>?_)
     refine Zs (i:=3) (v:=.int .i64 Xx51) #[true,true,true,true,false,false,false] rfl rfl hT (by kernel_rfl) hE rfl (KA rfl) hs (fun w s=>KS hE rfl sc3 s) (fun a hE=>?_)
     obtain⟨u_52,qu_52,H⟩:=H
     obtain⟨_,sA,H⟩:=H
     refine KJF (i:=4) #[true,true,true,true,true,false,false] rfl rfl hT (by kernel_rfl) rfl hE hR (KA rfl) (ZB hE rfl rfl sz22 qu_52)  (fun w' e=>by rw [e];exact sA) (fun a w hE hR hh hs=>?_)
     replace H:=M.at hh H;clear hh
     obtain⟨u_53,qu_53,H⟩:=H
     refine YD (i:=5) #[true,true,true,true,true,true,false] rfl rfl hT (by kernel_rfl) rfl hE hR (KA rfl) (ZB hE rfl rfl sz3 qu_53)  (fun a w hE hR hh=>?_)
     replace H:=M.at hh H;clear hh
     obtain⟨u_54,qu_54,H⟩:=H
     refine YD (i:=6) #[true,true,true,true,true,true,true] rfl rfl hT (by kernel_rfl) rfl hE hR (KA rfl) (ZB hE rfl rfl sz23 qu_54)  (fun a w hE hR hh=>?_)
     replace H:=M.at hh H;clear hh
     refine VD hT (by kernel_rfl) ?_
     refine hK_49 _ _ ?_
     refine Uv ?_
     refine hret _ _ _ _ _ hE hR (M.unbind H) (fun w hR H=>?_)
     obtain⟨Rr55,qRr55,H⟩:=H
     obtain⟨Rr56,qRr56,H⟩:=H
     obtain⟨Rr57,qRr57,H⟩:=H
     exact⟨(Rr55,Rr56,Rr57),_,Kn hE rfl (RV.cell rfl sc22 qRr55 (RV.cell rfl sc3 qRr56 (RV.cell rfl sc23 qRr57 RV.nil))),rfl,H⟩
    ·replace H:=M.ite_f hb H
     refine Zq ?_
     refine hK_46 _ _ ?_
     refine KR (fun K hK_58=>?_)
     refine KC ?_
     obtain⟨Xx59,qXx59,H⟩:=H
     refine KB (v:=(Xx59:Sl).v) rfl rfl hE rfl (KS hE rfl sc22 qXx59) (fun a hE=>?_)
     refine KB (v:=.string x0) rfl rfl hE rfl (KF hE rfl) (fun a hE=>?_)
     refine KB (v:=.int .i64 (x0.size:Int)) rfl rfl hE rfl (Yg hE rfl un9) (fun a hE=>?_)
     obtain⟨u_60,qu_60,H⟩:=H
     refine JA rfl rfl hE hR (ZB hE rfl rfl sz22 qu_60) (fun a w hE hR hh=>?_)
     replace H:=M.at hh H;clear hh
     obtain⟨u_61,qu_61,H⟩:=H
     refine JA rfl rfl hE hR (ZB hE rfl rfl sz3 qu_61) (fun a w hE hR hh=>?_)
     replace H:=M.at hh H;clear hh
     obtain⟨u_62,qu_62,H⟩:=H
     refine JA rfl rfl hE hR (ZB hE rfl rfl sz23 qu_62) (fun a w hE hR hh=>?_)
     replace H:=M.at hh H;clear hh
     refine KN ?_
     refine hK_58 _ _ ?_
     refine Uv ?_
     refine hret _ _ _ _ _ hE hR (M.unbind H) (fun w hR H=>?_)
     obtain⟨Rr63,qRr63,H⟩:=H
     obtain⟨Rr64,qRr64,H⟩:=H
     obtain⟨Rr65,qRr65,H⟩:=H
     exact⟨(Rr63,Rr64,Rr65),_,Kn hE rfl (RV.cell rfl sc22 qRr63 (RV.cell rfl sc3 qRr64 (RV.cell rfl sc23 qRr65 RV.nil))),rfl,H⟩
def Zw (x0:Int) (x1:Int):M (Int):=do
 M.ite (decide (x0<x1)) (do
  M.pure (-1)
  ) (do
  M.ite (decide (x0>x1)) (do
   M.pure 1
   ) (do
   M.pure 0
   )
  )
theorem KBC (x0:Int) (x1:Int):ZG Go.Proofs.Tryz.prog 117 #[.int .i64 x0,.int .i64 x1] (fun(r:Int)=>.int .i64 r) (Zw x0 x1):=
 KU [] [] [.I .i64] [(0,.I .i64 x0),(1,.I .i64 x1)] .o Go.Proofs.Tryz.func117 rfl rfl ⟨rfl,rfl,trivial⟩ rfl (by kernel_rfl) (by kernel_rfl)
noncomputable def GY:CalleeS Go.Proofs.Tryz.prog:=mkC KAC KAM [.I .i64,.I .i64] [.I .i64] (fun(t:Int×Int)=>Zw t.1 t.2) (fun(t:Int×Int)=>KBC t.1 t.2)
def Wa (Cc5:ByteArray) (Cc6:ByteArray) (self1:(Int)→M (Int)):(Int)→M (Int):=fun s=>match s with
 |Xx4=>do
  let Xx10←M.ite (decide (Xx4<(Cc5.size:Int))) (do
   M.pure (decide (Xx4<(Cc6.size:Int)))
   ) (do
   M.pure false
   )
  M.ite Xx10 (do
   let Xx13←ixS Cc5 Xx4
   let Xx14←ixS Cc6 Xx4
   M.ite (Xx13 !=Xx14) (do
    let Xx16←ixS Cc5 Xx4
    let Xx17←ixS Cc6 Xx4
    let Xx18←Zw (IntKind.wrap .i64 Xx16) (IntKind.wrap .i64 Xx17)
    M.pure Xx18
    ) (do
    self1 (IntKind.wrap .i64 (Xx4+1))
    )
   ) (do
   let Xx20←Zw (Cc5.size:Int) (Cc6.size:Int)
   M.pure Xx20
   )
def VU (x0:ByteArray) (x1:ByteArray):M (Int):=do
 M.loop (Wa x0 x1) 0
theorem KAQ (x0:ByteArray) (x1:ByteArray):ZG Go.Proofs.Tryz.prog 118 #[.string x0,.string x1] (fun(r:Int)=>.int .i64 r) (VU x0 x1):=
 KU [GY] [] [.I .i64] [(0,.S x0),(1,.S x1)] (.q .o (.q (.q .o (.b (.l [(0,.S),(1,.S)] [(5,.I .i64)] (fun(t:ByteArray×ByteArray)=>Wa t.1 t.2) (fun _=>.q .o (.q (.b (.q (.r [0,0,3,0,0,24,36] [0,0,3,0,0,24,36] [0,0,3,0,0,24,63] (.pu 0 (.pu 1 (.pu 2 (.pu 3 (.pu 4 (.pu 5 (.pu 6 (.st [0,1,2,3,4,5,6] .dn))))))))) (.q (.q (.r [0,0,3,4,0,0,48,64,136,511] [0,0,3,4,0,0,48,64,136,256] [0,0,3,7,0,0,48,112,255,511] (.pu 0 (.pu 1 (.pu 2 (.pu 3 (.pu 4 (.pu 5 (.pu 6 (.pu 7 (.st [0,1,2,3,4,5,6,7,8,9] (.on 8 (.pu 9 (.nx .dn))))))))))))) .o) .o))) .o))))) .o)) Go.Proofs.Tryz.func118 rfl rfl ⟨rfl,rfl,trivial⟩ rfl (by kernel_rfl) (by kernel_rfl)
noncomputable def KAR:CalleeS Go.Proofs.Tryz.prog:=mkC zD zN [.S,.S] [.I .i64] (fun(t:ByteArray×ByteArray)=>VU t.1 t.2) (fun(t:ByteArray×ByteArray)=>KAQ t.1 t.2)
def Vh (Cc28:Addr) (Cc29:Addr) (self1:(Int)→M (Int)):(Int)→M (Int):=fun s=>match s with
 |Xx27=>do
  let Xx33←ldL ((Cc28).add 3)
  let Xx34←M.ite (decide (Xx27<(Xx33.len:Int))) (do
   let Xx35←ldL ((Cc29).add 3)
   M.pure (decide (Xx27<(Xx35.len:Int)))
   ) (do
   M.pure false
   )
  M.ite Xx34 (do
   let Xx38←ldL ((Cc28).add 3)
   let Xx39←ixL Xx38 Xx27 4
   let Xx40←ldG 4 Xx39
   let Xx41←ldL ((Cc29).add 3)
   let Xx42←ixL Xx41 Xx27 4
   let Xx43←ldG 4 Xx42
   let Xx44←X3 Go.Proofs.Tryz.prog UU #[.agg Xx40,.agg Xx43] (fun r:Int=>.int .i64 r)
   M.ite (Xx44 !=0) (do
    M.pure Xx44
    ) (do
    self1 (IntKind.wrap .i64 (Xx27+1))
    )
   ) (do
   let Xx48←ldL ((Cc28).add 3)
   let Xx49←ldL ((Cc29).add 3)
   let Xx50←Zw (Xx48.len:Int) (Xx49.len:Int)
   M.pure Xx50
   )
def JD (x0:Array Value) (x1:Array Value):M (Int):=do
 let Xx2←mkB KH x0
 let Xx3←mkB KH x1
 let Xx6←ldI .i64 ((Xx2).add 0)
 let Xx7←ldI .i64 ((Xx3).add 0)
 let Xx8←Zw Xx6 Xx7
 M.ite (Xx8 !=0) (do
  M.pure Xx8
  ) (do
  let Xx13←ldI .i64 ((Xx2).add 1)
  let Xx14←ldI .i64 ((Xx3).add 1)
  let Xx15←Zw Xx13 Xx14
  M.ite (Xx15 !=0) (do
   M.pure Xx15
   ) (do
   let Xx20←ldS ((Xx2).add 2)
   let Xx21←ldS ((Xx3).add 2)
   let Xx22←VU Xx20 Xx21
   M.ite (Xx22 !=0) (do
    M.pure Xx22
    ) (do
    M.loop (Vh Xx2 Xx3) 0
    )
   )
  )
theorem Yl (x0:Array Value) (x1:Array Value):ZG Go.Proofs.Tryz.prog 74 #[.agg x0,.agg x1] (fun(r:Int)=>.int .i64 r) (JD x0 x1):=
 KU [GY,KAR,mkC UU YE [.G,.G] [.I .i64] (fun(t:Array Value×Array Value)=>X3 Go.Proofs.Tryz.prog UU #[.agg t.1,.agg t.2] (fun r:Int=>.int .i64 r)) (fun(t:Array Value×Array Value)=>VG)] [] [.I .i64] [(0,.G x0),(1,.G x1)] (.q .o (.q .o (.q .o (.q .o (.q (.q .o (.b (.l [(2,.A),(3,.A)] [(8,.I .i64)] (fun(t:Addr×Addr)=>Vh t.1 t.2) (fun _=>.q .o (.q (.b (.q (.r [0,1,0,6,8,0,32,0,192,256,528,2047] [0,1,0,6,8,0,32,0,192,256,528,1024] [0,1,0,7,15,0,32,0,224,480,1023,2047] (.pu 0 (.pu 2 (.pu 5 (.pu 7 (.pu 1 (.pu 3 (.pu 4 (.pu 6 (.pu 8 (.pu 9 (.st [10,11] (.on 10 (.pu 11 (.nx .dn))))))))))))))) .o)) .o))))) .o))))) Go.Proofs.Tryz.func74 rfl rfl ⟨rfl,rfl,trivial⟩ rfl (by kernel_rfl) (by kernel_rfl)
noncomputable def Ym:CalleeS Go.Proofs.Tryz.prog:=mkC UU YE [.G,.G] [.I .i64] (fun(t:Array Value×Array Value)=>JD t.1 t.2) (fun(t:Array Value×Array Value)=>Yl t.1 t.2)
def WM (Cc5:Sl) (self1:(Int)→M (Bool)):(Int)→M (Bool):=fun s=>match s with
 |Xx4=>do
  M.ite (decide (Xx4<(Cc5.len:Int))) (do
   let Xx11←ixL Cc5 (IntKind.wrap .i64 (Xx4 - 2)) 4
   let Xx12←ixL Cc5 Xx4 4
   let Xx13←ldG 4 Xx11
   let Xx14←ldG 4 Xx12
   let Xx15←JD Xx13 Xx14
   M.ite (decide (Xx15≥0)) (do
    M.pure false
    ) (do
    self1 (IntKind.wrap .i64 (Xx4+2))
    )
   ) (do
   M.pure true
   )
def U0 (x0:Sl):M (Bool):=do
 M.loop (WM x0) 2
theorem zS (x0:Sl):ZG Go.Proofs.Tryz.prog 110 #[(x0:Sl).v] (fun(r:Bool)=>.bool r) (U0 x0):=
 KU [Ym] [] [.B] [(0,.L x0)] (.q .o (.q (.q .o (.b (.l [(0,.L)] [(3,.I .i64)] (fun(t:Sl)=>WM t) (fun _=>.q .o (.q (.b (.q (.r [0,0,2,5,8,0,0,96,128,272,512] [0,0,2,5,8,0,0,96,128,272,512] [0,0,2,7,15,0,0,96,224,511,1023] (.pu 0 (.pu 1 (.pu 2 (.pu 3 (.pu 5 (.pu 6 (.pu 7 (.pu 4 (.pu 8 (.st [9,10] (.on 9 (.pu 10 (.nx .dn)))))))))))))) .o)) .o))))) .o)) Go.Proofs.Tryz.func110 rfl rfl ⟨rfl,trivial⟩ rfl (by kernel_rfl) (by kernel_rfl)
noncomputable def zT:CalleeS Go.Proofs.Tryz.prog:=mkC qL qV [.L] [.B] (fun(t:Sl)=>U0 t) (fun(t:Sl)=>zS t)
def Ue (Cc24:Int) (Cc25:Addr) (Cc26:Int) (Xx23:Bool):M (Bool):=do
 M.ite Xx23 (do
  let Xx28←ldS ((Cc25).add 2)
  let Xx29←M.ite (sEq Xx28 ByteArray.empty) (do
   let Xx30←ldL ((Cc25).add 3)
   M.pure ((Xx30.len:Int)==0)
   ) (do
   M.pure false
   )
  let Xx31←M.ite Xx29 (do
   let Xx32←ldI .i64 ((Cc25).add 1)
   M.pure (decide (Xx32≥1))
   ) (do
   M.pure false
   )
  let Xx33←M.ite Xx31 (do
   let Xx34←ldI .i64 ((Cc25).add 1)
   M.pure (decide (Xx34≤281474976710656))
   ) (do
   M.pure false
   )
  M.pure Xx33
  ) (do
  M.ite (Cc26==2) (do
   let Xx37←ldI .i64 ((Cc25).add 1)
   let Xx38←M.ite (Xx37==0) (do
    let Xx39←ldL ((Cc25).add 3)
    M.pure ((Xx39.len:Int)==0)
    ) (do
    M.pure false
    )
   let Xx40←M.ite Xx38 (do
    let Xx41←ldS ((Cc25).add 2)
    M.pure (decide ((Xx41.size:Int)≤128))
    ) (do
    M.pure false
    )
   M.pure Xx40
   ) (do
   M.ite (Cc26==4) (do
    let Xx44←ldI .i64 ((Cc25).add 1)
    let Xx45←M.ite (Xx44==0) (do
     let Xx46←ldS ((Cc25).add 2)
     M.pure (sEq Xx46 ByteArray.empty)
     ) (do
     M.pure false
     )
    let Xx47←M.ite Xx45 (do
     let Xx48←ldL ((Cc25).add 3)
     M.pure (decide ((Xx48.len:Int)≤256))
     ) (do
     M.pure false
     )
    let Xx49←M.ite Xx47 (do
     let Xx50←ldL ((Cc25).add 3)
     let Xx51←X3 Go.Proofs.Tryz.prog Ub #[(Xx50:Sl).v,.int .i64 Cc24] (fun r:Bool=>.bool r)
     M.pure Xx51
     ) (do
     M.pure false
     )
    M.pure Xx49
    ) (do
    M.ite (Cc26==5) (do
     let Xx54←ldI .i64 ((Cc25).add 1)
     let Xx55←M.ite (Xx54==0) (do
      let Xx56←ldS ((Cc25).add 2)
      M.pure (sEq Xx56 ByteArray.empty)
      ) (do
      M.pure false
      )
     let Xx57←M.ite Xx55 (do
      let Xx58←ldL ((Cc25).add 3)
      M.pure (decide ((Xx58.len:Int)≤512))
      ) (do
      M.pure false
      )
     let Xx59←M.ite Xx57 (do
      let Xx60←ldL ((Cc25).add 3)
      M.pure ((Int.tmod (Xx60.len:Int) 2)==0)
      ) (do
      M.pure false
      )
     let Xx61←M.ite Xx59 (do
      let Xx62←ldL ((Cc25).add 3)
      let Xx63←X3 Go.Proofs.Tryz.prog Ub #[(Xx62:Sl).v,.int .i64 Cc24] (fun r:Bool=>.bool r)
      M.pure Xx63
      ) (do
      M.pure false
      )
     let Xx64←M.ite Xx61 (do
      let Xx65←ldL ((Cc25).add 3)
      let Xx66←U0 Xx65
      M.pure Xx66
      ) (do
      M.pure false
      )
     M.pure Xx64
     ) (do
     M.pure false
     )
    )
   )
  )
def UN (x0:Array Value) (x1:Int):M (Bool):=do
 let Xx2←mkB KH x0
 M.ite (decide (x1≥8)) (do
  M.pure false
  ) (do
  let Xx8←ldI .i64 ((Xx2).add 0)
  M.ite (Xx8==1) (do
   let Xx11←ldS ((Xx2).add 2)
   let Xx12←M.ite (sEq Xx11 ByteArray.empty) (do
    let Xx13←ldL ((Xx2).add 3)
    M.pure ((Xx13.len:Int)==0)
    ) (do
    M.pure false
    )
   M.pure Xx12
   ) (do
   M.ite (Xx8==3) (do
    let Xx16←ldS ((Xx2).add 2)
    let Xx17←M.ite (sEq Xx16 ByteArray.empty) (do
     let Xx18←ldL ((Xx2).add 3)
     M.pure ((Xx18.len:Int)==0)
     ) (do
     M.pure false
     )
    let Xx19←M.ite Xx17 (do
     let Xx20←ldI .i64 ((Xx2).add 1)
     let Xx21←M.ite (Xx20==0) (do
      M.pure true
      ) (do
      let Xx22←ldI .i64 ((Xx2).add 1)
      M.pure (Xx22==1)
      )
     M.pure Xx21
     ) (do
     M.pure false
     )
    M.pure Xx19
    ) (do
    M.ite (Xx8==6) (do
     Ue x1 Xx2 Xx8 (Xx8==6)
     ) (do
     Ue x1 Xx2 Xx8 (Xx8==7)
     )
    )
   )
  )
theorem GZ (x0:Array Value) (x1:Int):ZG Go.Proofs.Tryz.prog 70 #[.agg x0,.int .i64 x1] (fun(r:Bool)=>.bool r) (UN x0 x1):=
 KU [mkC Ub KAL [.L,.I .i64] [.B] (fun(t:Sl×Int)=>X3 Go.Proofs.Tryz.prog Ub #[(t.1:Sl).v,.int .i64 t.2] (fun r:Bool=>.bool r)) (fun(t:Sl×Int)=>VG),zT] [] [.B] [(0,.G x0),(1,.I .i64 x1)] (.q .o (.q .o (.q (.q .o (.b (.q .o (.q .o (.q .o (.q .o (.q .o (.j [(1,.I .i64),(2,.A),(8,.I .i64),(41,.B)] (fun(t:Int×Addr×Int×Bool)=>Ue t.1 t.2.1 t.2.2.1 t.2.2.2) .o)))))))) .o))) Go.Proofs.Tryz.func70 rfl rfl ⟨rfl,rfl,trivial⟩ rfl (by kernel_rfl) (by kernel_rfl)
noncomputable def KBD:CalleeS Go.Proofs.Tryz.prog:=mkC Vk GE [.G,.I .i64] [.B] (fun(t:Array Value×Int)=>UN t.1 t.2) (fun(t:Array Value×Int)=>GZ t.1 t.2)
def U1 (x0:Array Value):M (Int):=do
 let Xx2←mkB KH x0
 let Xx5←ldG 4 Xx2
 let Xx6←UN Xx5 0
 M.ite (!Xx6) (do
  M.pure 20
  ) (do
  M.pure 0
  )
theorem zU (x0:Array Value):ZG Go.Proofs.Tryz.prog 33 #[.agg x0] (fun(r:Int)=>.int .i64 r) (U1 x0):=
 KU [KBD] [] [.I .i64] [(0,.G x0)] .o Go.Proofs.Tryz.func33 rfl rfl ⟨rfl,trivial⟩ rfl (by kernel_rfl) (by kernel_rfl)
noncomputable def zV:CalleeS Go.Proofs.Tryz.prog:=mkC qJ qT [.G] [.I .i64] (fun(t:Array Value)=>U1 t) (fun(t:Array Value)=>zU t)
end Gx
namespace Gx
open Go
def XY (x0:ByteArray):M (Bool):=do
 let Xx4←M.ite (sEq x0 ByteArray.empty) (do
  M.pure true
  ) (do
  M.pure (decide ((x0.size:Int)>24))
  )
 let Xx5←M.ite Xx4 (do
  M.pure true
  ) (do
  let Xx6←ixS x0 0
  let Xx7←M.ite (decide (Xx6≥48)) (do
   let Xx8←ixS x0 0
   M.pure (decide (Xx8≤57))
   ) (do
   M.pure false
   )
  M.pure Xx7
  )
 M.ite Xx5 (do
  M.pure false
  ) (do
  let Xx11←Wh x0 (⟨#[97,98,99,100,101,102,103,104,105,106,107,108,109,110,111,112,113,114,115,116,117,118,119,120,121,122,65,66,67,68,69,70,71,72,73,74,75,76,77,78,79,80,81,82,83,84,85,86,87,88,89,90,48,49,50,51,52,53,54,55,56,57,95]⟩:ByteArray)
  M.pure (sEq Xx11 ByteArray.empty)
  )
theorem KF7 (x0:ByteArray):ZG Go.Proofs.Tryz.prog 53 #[.string x0] (fun(r:Bool)=>.bool r) (XY x0):=
 KU [mkC KCc KCg [.S,.S] [.S] (fun(t:ByteArray×ByteArray)=>Wh t.1 t.2) (fun(t:ByteArray×ByteArray)=>KDr t.1 t.2)] [] [.B] [(0,.S x0)] .o Go.Proofs.Tryz.func53 rfl rfl ⟨rfl,trivial⟩ rfl (by kernel_rfl) (by kernel_rfl)
noncomputable def KBf:CalleeS Go.Proofs.Tryz.prog:=mkC KEq KEz [.S] [.B] (fun(t:ByteArray)=>XY t) (fun(t:ByteArray)=>KF7 t)
def JG (x0:ByteArray) (x1:Int):M (Int):=do
 let Xx3←Zf x0 x1
 M.pure Xx3
theorem Wb (x0:ByteArray) (x1:Int):ZG Go.Proofs.Tryz.prog 100 #[.string x0,.int .u8 x1] (fun(r:Int)=>.int .i64 r) (JG x0 x1):=
 KU [mkC Wq Ws [.S,.I .u8] [.I .i64] (fun(t:ByteArray×Int)=>Zf t.1 t.2) (fun(t:ByteArray×Int)=>YB t.1 t.2)] [] [.I .i64] [(0,.S x0),(1,.I .u8 x1)] .o Go.Proofs.Tryz.func100 rfl rfl ⟨rfl,rfl,trivial⟩ rfl (by kernel_rfl) (by kernel_rfl)
noncomputable def zW:CalleeS Go.Proofs.Tryz.prog:=mkC qN WK [.S,.I .u8] [.I .i64] (fun(t:ByteArray×Int)=>JG t.1 t.2) (fun(t:ByteArray×Int)=>Wb t.1 t.2)
def XZ (x0:Int):M (Bool):=do
 let Xx3←JG (⟨#[46,40,41,44,91,93,123,125,58,61,59]⟩:ByteArray) x0
 M.pure (decide (Xx3≥0))
theorem KF8 (x0:Int):ZG Go.Proofs.Tryz.prog 54 #[.int .u8 x0] (fun(r:Bool)=>.bool r) (XZ x0):=
 KU [zW] [] [.B] [(0,.I .u8 x0)] .o Go.Proofs.Tryz.func54 rfl rfl ⟨rfl,trivial⟩ rfl (by kernel_rfl) (by kernel_rfl)
noncomputable def KBg:CalleeS Go.Proofs.Tryz.prog:=mkC KEk KEt [.I .u8] [.B] (fun(t:Int)=>XZ t) (fun(t:Int)=>KF8 t)
def VF (Xx12:Bool):M (Int):=do
 M.ite (!Xx12) (do
  M.pure 150
  ) (do
  M.pure 0
  )
def Np (x0:Array Value):M (Int):=do
 let Xx2←mkB KX x0
 let Xx5←ldI .i64 ((Xx2).add 3)
 let Xx6←M.ite (decide (Xx5<0)) (do
  M.pure true
  ) (do
  let Xx7←ldI .i64 ((Xx2).add 2)
  let Xx8←M.ite (Xx7 !=0) (do
   let Xx9←ldI .i64 ((Xx2).add 0)
   M.pure (Xx9 !=2)
   ) (do
   M.pure false
   )
  M.pure Xx8
  )
 M.ite Xx6 (do
  M.pure 150
  ) (do
  let Xx18←ldI .i64 ((Xx2).add 0)
  M.ite (Xx18==1) (do
   let Xx20←ldS ((Xx2).add 1)
   let Xx21←XY Xx20
   VF Xx21
   ) (do
   M.ite (Xx18==2) (do
    let Xx23←ldS ((Xx2).add 1)
    VF (sEq Xx23 ByteArray.empty)
    ) (do
    M.ite (Xx18==3) (do
     let Xx25←ldS ((Xx2).add 1)
     VF (decide ((Xx25.size:Int)≤128))
     ) (do
     M.ite (Xx18==4) (do
      let Xx27←ldS ((Xx2).add 1)
      let Xx28←M.ite ((Xx27.size:Int)==1) (do
       let Xx29←ldS ((Xx2).add 1)
       let Xx30←ixS Xx29 0
       let Xx31←XZ Xx30
       M.pure Xx31
       ) (do
       M.pure false
       )
      VF Xx28
      ) (do
      VF false
      )
     )
    )
   )
  )
theorem KHM (x0:Array Value):ZG Go.Proofs.Tryz.prog 22 #[.agg x0] (fun(r:Int)=>.int .i64 r) (Np x0):=
 KU [KBf,KBg] [] [.I .i64] [(0,.G x0)] (.q .o (.q .o (.q .o (.q .o (.j [(3,.B)] (fun(t:Bool)=>VF t) .o))))) Go.Proofs.Tryz.func22 rfl rfl ⟨rfl,trivial⟩ rfl (by kernel_rfl) (by kernel_rfl)
end Gx
namespace Gx
open Go
def KAS (x0:Int):M (Array Value):=do
 let Xx2←mkB KH (#[.int .i64 0,.int .i64 0,.string ByteArray.empty,.slice none 0 0]:Array Value)
 M.need ((#[.int .i64 1,.int .i64 x0,.string ByteArray.empty,.slice none 0 0]:Array Value).size=4)
 stG Xx2 (#[.int .i64 1,.int .i64 x0,.string ByteArray.empty,.slice none 0 0]:Array Value)
 let Rr5←ldG 4 Xx2
 M.pure Rr5
theorem KCk (x0:Int):ZG Go.Proofs.Tryz.prog 51 #[.int .i64 x0] (fun(r:Array Value)=>.agg r) (KAS x0):=
 KU [] [] [.G] [(0,.I .i64 x0)] .o Go.Proofs.Tryz.func51 rfl rfl ⟨rfl,trivial⟩ rfl (by kernel_rfl) (by kernel_rfl)
def KAT (x0:ByteArray):M (Array Value):=do
 let Xx2←mkB KH (#[.int .i64 0,.int .i64 0,.string ByteArray.empty,.slice none 0 0]:Array Value)
 M.need ((#[.int .i64 2,.int .i64 0,.string x0,.slice none 0 0]:Array Value).size=4)
 stG Xx2 (#[.int .i64 2,.int .i64 0,.string x0,.slice none 0 0]:Array Value)
 let Rr5←ldG 4 Xx2
 M.pure Rr5
theorem KCl (x0:ByteArray):ZG Go.Proofs.Tryz.prog 52 #[.string x0] (fun(r:Array Value)=>.agg r) (KAT x0):=
 KU [] [] [.G] [(0,.S x0)] .o Go.Proofs.Tryz.func52 rfl rfl ⟨rfl,trivial⟩ rfl (by kernel_rfl) (by kernel_rfl)
def UY (x0:Int):M (Int):=do
 M.ite (decide (x0<0)) (do
  M.pure (IntKind.wrap .u64 (0 - (IntKind.wrap .u64 x0)))
  ) (do
  M.pure (IntKind.wrap .u64 x0)
  )
theorem KAU (x0:Int):ZG Go.Proofs.Tryz.prog 200 #[.int .i64 x0] (fun(r:Int)=>.int .u64 r) (UY x0):=
 KU [] [] [.I .u64] [(0,.I .i64 x0)] .o Go.Proofs.Tryz.func200 rfl rfl ⟨rfl,trivial⟩ rfl (by kernel_rfl) (by kernel_rfl)
noncomputable def KAV:CalleeS Go.Proofs.Tryz.prog:=mkC zA zK [.I .i64] [.I .u64] (fun(t:Int)=>UY t) (fun(t:Int)=>KAU t)
def Vz (self1:(Int×Sl)→M (Sl)):(Int×Sl)→M (Sl):=fun s=>match s with
 |(Xx6,Xx7)=>do
  let Xx11←M.ite (decide (Xx6>0)) (do
   M.pure true
   ) (do
   M.pure ((Xx7.len:Int)==0)
   )
  M.ite Xx11 (do
   let Xx13←bdL VE 1 #[.int .i64 (IntKind.wrap .i64 (Int.tmod Xx6 10))]
   let Xx14←apL VE 1 8 (#[.int .i64 0]:Array Value) Xx13 Xx7
   self1 (IntKind.wrap .u64 (Int.tdiv Xx6 10),Xx14)
   ) (do
   M.pure Xx7
   )
def Uf (x0:Int):M (Sl):=do
 let Xx3←UY x0
 M.loop Vz (Xx3,Sl.nil)
theorem qY (x0:Int):ZG Go.Proofs.Tryz.prog 151 #[.int .i64 x0] (fun(r:Sl)=>(r:Sl).v) (Uf x0):=
 KU [KAV] [] [.L] [(0,.I .i64 x0)] (.q .o (.q .o (.q .o (.q (.b (.l [] [(3,.I .u64),(4,.L)] (fun(t:Unit)=>Vz) (fun _=>.o))) .o)))) Go.Proofs.Tryz.func151 rfl rfl ⟨rfl,trivial⟩ rfl (by kernel_rfl) (by kernel_rfl)
noncomputable def qZ:CalleeS Go.Proofs.Tryz.prog:=mkC Ni Nm [.I .i64] [.L] (fun(t:Int)=>Uf t) (fun(t:Int)=>qY t)
def Wc (Cc11:Sl) (self1:(ByteArray×Int)→M (ByteArray)):(ByteArray×Int)→M (ByteArray):=fun s=>match s with
 |(Xx9,Xx10)=>do
  M.ite (decide (Xx10<(Cc11.len:Int))) (do
   let Xx16←ixL Cc11 Xx10 1
   let Xx17←ldI .i64 Xx16
   let Xx18←bdL ZJ 1 #[.int .u8 (IntKind.wrap .u8 (IntKind.wrap .i64 (48+Xx17)))]
   let Xx19←b2s Xx18
   let Xx20←sCat Xx9 Xx19
   self1 (Xx20,IntKind.wrap .i64 (Xx10+1))
   ) (do
   M.pure Xx9
   )
def UO (Cc4:Int) (Xx3:ByteArray):M (ByteArray):=do
 let Xx6←Uf Cc4
 M.loop (Wc Xx6) (Xx3,0)
def J7 (x0:Int):M (ByteArray):=do
 M.ite (decide (x0<0)) (do
  UO x0 (⟨#[45]⟩:ByteArray)
  ) (do
  UO x0 ByteArray.empty
  )
theorem KAW (x0:Int):ZG Go.Proofs.Tryz.prog 111 #[.int .i64 x0] (fun(r:ByteArray)=>.string r) (J7 x0):=
 KU [qZ] [] [.S] [(0,.I .i64 x0)] (.q .o (.q .o (.q .o (.j [(0,.I .i64),(3,.S)] (fun(t:Int×ByteArray)=>UO t.1 t.2) (.q .o (.q (.q .o (.b (.l [(4,.L)] [(3,.S),(5,.I .i64)] (fun(t:Sl)=>Wc t) (fun _=>.o)))) .o)))))) Go.Proofs.Tryz.func111 rfl rfl ⟨rfl,trivial⟩ rfl (by kernel_rfl) (by kernel_rfl)
noncomputable def KAX:CalleeS Go.Proofs.Tryz.prog:=mkC q9 zJ [.I .i64] [.S] (fun(t:Int)=>J7 t) (fun(t:Int)=>KAW t)
def JX (self1:(Sl×Int)→M (ByteArray)) (Cc14:Int) (Xx12:Sl):M (ByteArray):=do
 self1 (Xx12,IntKind.wrap .i64 (Cc14+1))
def WO (Cc8:ByteArray) (self1:(Sl×Int)→M (ByteArray)):(Sl×Int)→M (ByteArray):=fun s=>match s with
 |(Xx6,Xx7)=>do
  M.ite (decide (Xx7<(Cc8.size:Int))) (do
   let Xx16←ixS Cc8 Xx7
   let Xx18←M.ite (Xx16==39) (do
    M.pure true
    ) (do
    M.pure (Xx16==92)
    )
   M.ite Xx18 (do
    let Xx19←bdL ZJ 2 #[.int .u8 92,.int .u8 Xx16]
    let Xx20←apL ZJ 1 1 (#[.int .u8 0]:Array Value) Xx6 Xx19
    JX self1 Xx7 Xx20
    ) (do
    let Xx22←M.ite (decide (Xx16<32)) (do
     M.pure true
     ) (do
     M.pure (decide (Xx16>126))
     )
    M.ite Xx22 (do
     let Xx23←ixS (⟨#[48,49,50,51,52,53,54,55,56,57,97,98,99,100,101,102]⟩:ByteArray) (IntKind.wrap .u8 (Int.tdiv Xx16 16))
     let Xx24←ixS (⟨#[48,49,50,51,52,53,54,55,56,57,97,98,99,100,101,102]⟩:ByteArray) (Int.tmod Xx16 16)
     let Xx25←bdL ZJ 4 #[.int .u8 92,.int .u8 120,.int .u8 Xx23,.int .u8 Xx24]
     let Xx26←apL ZJ 1 1 (#[.int .u8 0]:Array Value) Xx6 Xx25
     JX self1 Xx7 Xx26
     ) (do
     let Xx27←bdL ZJ 1 #[.int .u8 Xx16]
     let Xx28←apL ZJ 1 1 (#[.int .u8 0]:Array Value) Xx6 Xx27
     JX self1 Xx7 Xx28
     )
    )
   ) (do
   let Xx30←bdL ZJ 1 #[.int .u8 39]
   let Xx31←apL ZJ 1 1 (#[.int .u8 0]:Array Value) Xx6 Xx30
   let Xx32←b2s Xx31
   M.pure Xx32
   )
def U2 (x0:ByteArray):M (ByteArray):=do
 let Xx3←bdL ZJ 1 #[.int .u8 39]
 M.loop (WO x0) (Xx3,0)
theorem zX (x0:ByteArray):ZG Go.Proofs.Tryz.prog 112 #[.string x0] (fun(r:ByteArray)=>.string r) (U2 x0):=
 KU [] [] [.S] [(0,.S x0)] (.q .o (.q .o (.q (.q .o (.b (.l [(0,.S)] [(3,.L),(4,.I .i64)] (fun(t:ByteArray)=>WO t) (fun self1=>.q .o (.q (.b (.q .o (.b (.q .o (.q .o (.q .o (.q (.r [0,0,2,4,0,16,32,72,129,511] [0,0,2,4,0,16,32,72,129,257] [0,0,2,6,0,16,48,126,255,511] (.pu 0 (.pu 1 (.pu 2 (.pu 3 (.pu 4 (.pu 5 (.pu 6 (.st [0,1,2,3,4,5,6,7,8,9] (.on 7 (.on 8 (.pu 9 (.nx .dn))))))))))))) .o))))))) (.j [(0,.S),(4,.I .i64),(3,.L)] (fun(t:ByteArray×Int×Sl)=>JX self1 t.2.1 t.2.2) .o)))))) .o))) Go.Proofs.Tryz.func112 rfl rfl ⟨rfl,trivial⟩ rfl (by kernel_rfl) (by kernel_rfl)
noncomputable def zY:CalleeS Go.Proofs.Tryz.prog:=mkC qK qU [.S] [.S] (fun(t:ByteArray)=>U2 t) (fun(t:ByteArray)=>zX t)
def J8 (x0:Array Value) (x1:Int):M (ByteArray):=do
 let Xx2←mkB KH x0
 M.ite (decide (x1≥8)) (do
  M.pure (⟨#[63]⟩:ByteArray)
  ) (do
  let Xx8←ldI .i64 ((Xx2).add 0)
  M.ite (Xx8==1) (do
   let Xx11←ldI .i64 ((Xx2).add 1)
   let Xx12←J7 Xx11
   M.pure Xx12
   ) (do
   M.ite (Xx8==2) (do
    let Xx15←ldS ((Xx2).add 2)
    let Xx16←U2 Xx15
    M.pure Xx16
    ) (do
    M.ite (Xx8==3) (do
     let Xx20←ldI .i64 ((Xx2).add 1)
     M.ite (Xx20==1) (do
      M.pure (⟨#[116,114,117,101]⟩:ByteArray)
      ) (do
      M.pure (⟨#[102,97,108,115,101]⟩:ByteArray)
      )
     ) (do
     M.ite (Xx8==6) (do
      let Xx25←ldI .i64 ((Xx2).add 1)
      let Xx26←J7 Xx25
      let Xx27←sCat (⟨#[118,91]⟩:ByteArray) Xx26
      let Xx28←sCat Xx27 (⟨#[93]⟩:ByteArray)
      M.pure Xx28
      ) (do
      M.ite (Xx8==7) (do
       let Xx31←ldI .i64 ((Xx2).add 1)
       let Xx32←J7 Xx31
       let Xx33←sCat (⟨#[101,91]⟩:ByteArray) Xx32
       let Xx34←sCat Xx33 (⟨#[93]⟩:ByteArray)
       M.pure Xx34
       ) (do
       M.ite (Xx8==4) (do
        let Xx37←ldL ((Xx2).add 3)
        let Xx38←X3 Go.Proofs.Tryz.prog Up #[(Xx37:Sl).v,.int .i64 x1,.string (⟨#[44,32]⟩:ByteArray),.string (⟨#[44,32]⟩:ByteArray)] (fun r:ByteArray=>.string r)
        let Xx39←sCat (⟨#[91]⟩:ByteArray) Xx38
        let Xx40←sCat Xx39 (⟨#[93]⟩:ByteArray)
        M.pure Xx40
        ) (do
        M.ite (Xx8==5) (do
         let Xx43←ldL ((Xx2).add 3)
         let Xx44←X3 Go.Proofs.Tryz.prog Up #[(Xx43:Sl).v,.int .i64 x1,.string (⟨#[58,32]⟩:ByteArray),.string (⟨#[44,32]⟩:ByteArray)] (fun r:ByteArray=>.string r)
         let Xx45←sCat (⟨#[123]⟩:ByteArray) Xx44
         let Xx46←sCat Xx45 (⟨#[125]⟩:ByteArray)
         M.pure Xx46
         ) (do
         M.pure (⟨#[63]⟩:ByteArray)
         )
        )
       )
      )
     )
    )
   )
  )
theorem GF (x0:Array Value) (x1:Int):ZG Go.Proofs.Tryz.prog 71 #[.agg x0,.int .i64 x1] (fun(r:ByteArray)=>.string r) (J8 x0 x1):=
 KU [KAX,zY,mkC Up qW [.L,.I .i64,.S,.S] [.S] (fun(t:Sl×Int×ByteArray×ByteArray)=>X3 Go.Proofs.Tryz.prog Up #[(t.1:Sl).v,.int .i64 t.2.1,.string t.2.2.1,.string t.2.2.2] (fun r:ByteArray=>.string r)) (fun(t:Sl×Int×ByteArray×ByteArray)=>VG)] [] [.S] [(0,.G x0),(1,.I .i64 x1)] .o Go.Proofs.Tryz.func71 rfl rfl ⟨rfl,rfl,trivial⟩ rfl (by kernel_rfl) (by kernel_rfl)
noncomputable def KAY:CalleeS Go.Proofs.Tryz.prog:=mkC VK Xf [.G,.I .i64] [.S] (fun(t:Array Value×Int)=>J8 t.1 t.2) (fun(t:Array Value×Int)=>GF t.1 t.2)
def VV (x0:Array Value):M (ByteArray):=do
 let Xx2←mkB KH x0
 let Xx4←ldG 4 Xx2
 let Xx5←J8 Xx4 0
 M.pure Xx5
theorem KAZ (x0:Array Value):ZG Go.Proofs.Tryz.prog 34 #[.agg x0] (fun(r:ByteArray)=>.string r) (VV x0):=
 KU [KAY] [] [.S] [(0,.G x0)] .o Go.Proofs.Tryz.func34 rfl rfl ⟨rfl,trivial⟩ rfl (by kernel_rfl) (by kernel_rfl)
noncomputable def KAa:CalleeS Go.Proofs.Tryz.prog:=mkC zC zM [.G] [.S] (fun(t:Array Value)=>VV t) (fun(t:Array Value)=>KAZ t)
def YQ (x0:ByteArray):M (Sl×Int×Int):=do
 let Xx3←mkB YZ (#[.slice none 0 0]:Array Value)
 let Xx5←X3 Go.Proofs.Tryz.prog VJ #[.string x0,(Value.func (.func KBo) #[] #[.pointer (some Xx3)])] (fun r:Int×Int=>.tuple #[.int .i64 r.1,.int .i64 r.2])
 M.ite (Xx5.2 !=0) (do
  M.pure (Sl.nil,Xx5.1,Xx5.2)
  ) (do
  let Xx10←ldL Xx3
  M.pure (Xx10,Xx5.1,0)
  )
theorem KE6 (x0:ByteArray):ZG Go.Proofs.Tryz.prog 31 #[.string x0] (fun(r:Sl×Int×Int)=>.tuple #[(r.1:Sl).v,.int .i64 r.2.1,.int .i64 r.2.2]) (YQ x0):=
 KU [mkC VJ KAK [.S,.V] [.I .i64,.I .i64] (fun(t:ByteArray×Value)=>X3 Go.Proofs.Tryz.prog VJ #[.string t.1,t.2] (fun r:Int×Int=>.tuple #[.int .i64 r.1,.int .i64 r.2])) (fun(t:ByteArray×Value)=>VG)] [] [.L,.I .i64,.I .i64] [(0,.S x0)] .o Go.Proofs.Tryz.func31 rfl rfl ⟨rfl,trivial⟩ rfl (by kernel_rfl) (by kernel_rfl)
noncomputable def KE7:CalleeS Go.Proofs.Tryz.prog:=mkC KDf KDl [.S] [.L,.I .i64,.I .i64] (fun(t:ByteArray)=>YQ t) (fun(t:ByteArray)=>KE6 t)
def XO (x0:ByteArray) (x1:ByteArray):M (Int):=do
 let Xx3←UW x0 x1
 M.pure Xx3
theorem KCm (x0:ByteArray) (x1:ByteArray):ZG Go.Proofs.Tryz.prog 208 #[.string x0,.string x1] (fun(r:Int)=>.int .i64 r) (XO x0 x1):=
 KU [mkC Yz Y2 [.S,.S] [.I .i64] (fun(t:ByteArray×ByteArray)=>UW t.1 t.2) (fun(t:ByteArray×ByteArray)=>XN t.1 t.2)] [] [.I .i64] [(0,.S x0),(1,.S x1)] .o Go.Proofs.Tryz.func208 rfl rfl ⟨rfl,rfl,trivial⟩ rfl (by kernel_rfl) (by kernel_rfl)
noncomputable def KCn:CalleeS Go.Proofs.Tryz.prog:=mkC KBr KBz [.S,.S] [.I .i64] (fun(t:ByteArray×ByteArray)=>XO t.1 t.2) (fun(t:ByteArray×ByteArray)=>KCm t.1 t.2)
def UP (Cc20:Sl) (Xx18:ByteArray) (Xx19:Int):M (Sl):=do
 let Xx22←ixL Cc20 Xx19 1
 stV Xx22 (.string Xx18)
 let Xx25←slL Cc20 0 (IntKind.wrap .i64 (Xx19+1)) 1
 M.pure Xx25
def Wd (Cc28:ByteArray) (Cc29:Int) (Cc30:Int) (Cc31:Sl) (self1:(ByteArray×Int)→M (Sl)):(ByteArray×Int)→M (Sl):=fun s=>match s with
 |(Xx26,Xx27)=>do
  M.ite (decide (Xx27<Cc30)) (do
   let Xx36←XO Xx26 Cc28
   M.ite (decide (Xx36<0)) (do
    UP Cc31 Xx26 Xx27
    ) (do
    let Xx40←slS Xx26 0 (IntKind.wrap .i64 (Xx36+Cc29))
    let Xx41←ixL Cc31 Xx27 1
    stV Xx41 (.string Xx40)
    let Xx44←slS Xx26 (IntKind.wrap .i64 (Xx36+(Cc28.size:Int))) Xx26.size
    self1 (Xx44,IntKind.wrap .i64 (Xx27+1))
    )
   ) (do
   UP Cc31 Xx26 Xx27
   )
def VL (Cc10:ByteArray) (Cc11:ByteArray) (Cc12:Int) (Xx9:Int):M (Sl):=do
 let Xx15←mkS Yj 1 16 (#[.string ByteArray.empty]:Array Value) (iMin Xx9 (IntKind.wrap .i64 ((Cc10.size:Int)+1))) (iMin Xx9 (IntKind.wrap .i64 ((Cc10.size:Int)+1)))
 M.loop (Wd Cc11 Cc12 (IntKind.wrap .i64 ((iMin Xx9 (IntKind.wrap .i64 ((Cc10.size:Int)+1))) - 1)) Xx15) (Cc10,0)
def WV (x0:ByteArray) (x1:ByteArray) (x2:Int) (x3:Int):M (Sl):=do
 M.ite (x3==0) (do
  M.pure Sl.nil
  ) (do
  M.ite (sEq x1 ByteArray.empty) (do
   let Xx8←Xg x0 x3
   M.pure Xx8
   ) (do
   M.ite (decide (x3<0)) (do
    let Xx46←NB x0 x1
    VL x0 x1 x2 (IntKind.wrap .i64 (Xx46+1))
    ) (do
    VL x0 x1 x2 x3
    )
   )
  )
theorem KAb (x0:ByteArray) (x1:ByteArray) (x2:Int) (x3:Int):ZG Go.Proofs.Tryz.prog 170 #[.string x0,.string x1,.int .i64 x2,.int .i64 x3] (fun(r:Sl)=>(r:Sl).v) (WV x0 x1 x2 x3):=
 KU [mkC KAF KAP [.S,.I .i64] [.L] (fun(t:ByteArray×Int)=>Xg t.1 t.2) (fun(t:ByteArray×Int)=>KBA t.1 t.2),mkC KBq KBy [.S,.S] [.I .i64] (fun(t:ByteArray×ByteArray)=>NB t.1 t.2) (fun(t:ByteArray×ByteArray)=>KCi t.1 t.2),KCn] [] [.L] [(0,.S x0),(1,.S x1),(2,.I .i64 x2),(3,.I .i64 x3)] (.q .o (.q .o (.q .o (.q .o (.j [(0,.S),(1,.S),(2,.I .i64),(3,.I .i64)] (fun(t:ByteArray×ByteArray×Int×Int)=>VL t.1 t.2.1 t.2.2.1 t.2.2.2) (.q .o (.q .o (.q .o (.q .o (.q (.b (.l [(1,.S),(2,.I .i64),(3,.I .i64),(9,.L)] [(0,.S),(10,.I .i64)] (fun(t:ByteArray×Int×Int×Sl)=>Wd t.1 t.2.1 t.2.2.1 t.2.2.2) (fun _=>.o))) (.j [(9,.L),(0,.S),(10,.I .i64)] (fun(t:Sl×ByteArray×Int)=>UP t.1 t.2.1 t.2.2) .o))))))))))) Go.Proofs.Tryz.func170 rfl rfl ⟨rfl,rfl,rfl,rfl,trivial⟩ rfl (by kernel_rfl) (by kernel_rfl)
noncomputable def KAc:CalleeS Go.Proofs.Tryz.prog:=mkC zF zP [.S,.S,.I .i64,.I .i64] [.L] (fun(t:ByteArray×ByteArray×Int×Int)=>WV t.1 t.2.1 t.2.2.1 t.2.2.2) (fun(t:ByteArray×ByteArray×Int×Int)=>KAb t.1 t.2.1 t.2.2.1 t.2.2.2)
def WB (x0:ByteArray) (x1:ByteArray):M (Sl):=do
 let Xx3←WV x0 x1 0 (-1)
 M.pure Xx3
theorem KCo (x0:ByteArray) (x1:ByteArray):ZG Go.Proofs.Tryz.prog 123 #[.string x0,.string x1] (fun(r:Sl)=>(r:Sl).v) (WB x0 x1):=
 KU [KAc] [] [.L] [(0,.S x0),(1,.S x1)] .o Go.Proofs.Tryz.func123 rfl rfl ⟨rfl,rfl,trivial⟩ rfl (by kernel_rfl) (by kernel_rfl)
noncomputable def Nq:CalleeS Go.Proofs.Tryz.prog:=mkC KBs KB0 [.S,.S] [.L] (fun(t:ByteArray×ByteArray)=>WB t.1 t.2) (fun(t:ByteArray×ByteArray)=>KCo t.1 t.2)
def Ga (x0:ByteArray) (x1:Int):M (ByteArray):=do
 let Xx3←WB x0 (⟨#[32]⟩:ByteArray)
 let Xx6←M.ite (decide (x1<1)) (do
  M.pure true
  ) (do
  M.pure (decide (x1>(Xx3.len:Int)))
  )
 M.ite Xx6 (do
  M.pure ByteArray.empty
  ) (do
  let Xx9←ixL Xx3 (IntKind.wrap .i64 (x1 - 1)) 1
  let Xx10←ldS Xx9
  M.pure Xx10
  )
theorem KF9 (x0:ByteArray) (x1:Int):ZG Go.Proofs.Tryz.prog 78 #[.string x0,.int .i64 x1] (fun(r:ByteArray)=>.string r) (Ga x0 x1):=
 KU [Nq] [] [.S] [(0,.S x0),(1,.I .i64 x1)] .o Go.Proofs.Tryz.func78 rfl rfl ⟨rfl,rfl,trivial⟩ rfl (by kernel_rfl) (by kernel_rfl)
noncomputable def KGA:CalleeS Go.Proofs.Tryz.prog:=mkC KEp KEy [.S,.I .i64] [.S] (fun(t:ByteArray×Int)=>Ga t.1 t.2) (fun(t:ByteArray×Int)=>KF9 t.1 t.2)
def Gc (x0:Int):M (ByteArray):=do
 let Xx3←Ga (⟨#[86,32,69,32,105,110,106,101,99,116,32,97,100,100,86,32,111,117,116,32,105,110,32,98,111,116,104,32,111,117,116,69,32,105,110,69,32,98,111,116,104,69,32,111,117,116,86,32,105,110,86,32,98,111,116,104,86,32,104,97,115,32,104,97,115,75,101,121,32,104,97,115,78,111,116,32,104,97,115,76,97,98,101,108,32,104,97,115,73,100,32,105,115,32,119,104,101,114,101,32,110,111,116,32,97,110,100,32,111,114,32,100,101,100,117,112,32,115,105,109,112,108,101,80,97,116,104,32,108,105,109,105,116,32,115,107,105,112,32,114,97,110,103,101,32,116,97,105,108,32,105,100,32,108,97,98,101,108,32,118,97,108,117,101,115,32,118,97,108,117,101,77,97,112,32,99,111,110,115,116,97,110,116,32,99,111,117,110,116,32,115,117,109,32,109,105,110,32,109,97,120,32,102,111,108,100,32,117,110,102,111,108,100,32,112,97,116,104,32,97,115,32,115,101,108,101,99,116,32,111,114,100,101,114,32,111,114,100,101,114,68,101,115,99,32,111,114,100,101,114,66,121,32,111,114,100,101,114,66,121,68,101,115,99,32,103,114,111,117,112,67,111,117,110,116,32,108,111,111,112,115,32,117,110,105,111,110,32,99,111,97,108,101,115,99,101,32,111,112,116,105,111,110,97,108,32,99,104,111,111,115,101,32,116,105,109,101,115,32,117,110,116,105,108,32,101,109,105,116,32,97,100,100,69,32,112,114,111,112,101,114,116,121,32,100,114,111,112,32,105,100,101,110,116,105,116,121]⟩:ByteArray) x0
 M.pure Xx3
theorem KGB (x0:Int):ZG Go.Proofs.Tryz.prog 40 #[.int .i64 x0] (fun(r:ByteArray)=>.string r) (Gc x0):=
 KU [KGA] [] [.S] [(0,.I .i64 x0)] .o Go.Proofs.Tryz.func40 rfl rfl ⟨rfl,trivial⟩ rfl (by kernel_rfl) (by kernel_rfl)
noncomputable def KGC:CalleeS Go.Proofs.Tryz.prog:=mkC KEm KEv [.I .i64] [.S] (fun(t:Int)=>Gc t) (fun(t:Int)=>KGB t)
def UI:M (Bool):=do
 let Xx3←YQ (⟨#[103,46,86,40,49,41,46,111,117,116,40,39,107,110,111,119,115,39,41,46,104,97,115,40,39,97,103,101,39,44,103,116,40,51,48,41,41,46,99,111,117,110,116,40,41]⟩:ByteArray)
 let Xx5←YQ (⟨#[103,46,86,40]⟩:ByteArray)
 let Xx7←M.ite ((Xx3.1.len:Int)==4) (do
  M.pure (Xx3.2.1==45)
  ) (do
  M.pure false
  )
 let Xx8←M.ite Xx7 (do
  M.pure (Xx3.2.2==0)
  ) (do
  M.pure false
  )
 let Xx9←M.ite Xx8 (do
  M.pure (Xx5.2.1==4)
  ) (do
  M.pure false
  )
 let Xx10←M.ite Xx9 (do
  M.pure (Xx5.2.2==160)
  ) (do
  M.pure false
  )
 let Xx11←M.ite Xx10 (do
  let Xx12←Gc 47
  M.pure (sEq Xx12 (⟨#[111,114,100,101,114,66,121,68,101,115,99]⟩:ByteArray))
  ) (do
  M.pure false
  )
 M.pure Xx11
theorem zZ:ZG Go.Proofs.Tryz.prog 30 #[] (fun(r:Bool)=>.bool r) (UI):=
 KU [KE7,KGC] [] [.B] [] .o Go.Proofs.Tryz.func30 rfl rfl trivial rfl (by kernel_rfl) (by kernel_rfl)
noncomputable def za:CalleeS Go.Proofs.Tryz.prog:=mkC qI qS [] [.B] (fun(t:Unit)=>UI) (fun(t:Unit)=>zZ)
def Xj (x0:ByteArray):M (Array Value×Int×Int):=do
 let Xx2←mkB KH (#[.int .i64 0,.int .i64 0,.string ByteArray.empty,.slice none 0 0]:Array Value)
 let Xx4←mkB KH (#[.int .i64 0,.int .i64 0,.string ByteArray.empty,.slice none 0 0]:Array Value)
 let Xx6←X3 Go.Proofs.Tryz.prog VJ #[.string x0,(Value.func (.func KBp) #[] #[.pointer (some Xx4)])] (fun r:Int×Int=>.tuple #[.int .i64 r.1,.int .i64 r.2])
 M.ite (Xx6.2 !=0) (do
  M.need ((#[.int .i64 0,.int .i64 0,.string ByteArray.empty,.slice none 0 0]:Array Value).size=4)
  stG Xx2 (#[.int .i64 0,.int .i64 0,.string ByteArray.empty,.slice none 0 0]:Array Value)
  let Rr11←ldG 4 Xx2
  M.pure (Rr11,Xx6.1,Xx6.2)
  ) (do
  let Xx13←ldG 4 Xx4
  M.need (Xx13.size=4)
  stG Xx2 Xx13
  let Rr15←ldG 4 Xx2
  M.pure (Rr15,Xx6.1,0)
  )
theorem KE8 (x0:ByteArray):ZG Go.Proofs.Tryz.prog 35 #[.string x0] (fun(r:Array Value×Int×Int)=>.tuple #[.agg r.1,.int .i64 r.2.1,.int .i64 r.2.2]) (Xj x0):=
 KU [mkC VJ KAK [.S,.V] [.I .i64,.I .i64] (fun(t:ByteArray×Value)=>X3 Go.Proofs.Tryz.prog VJ #[.string t.1,t.2] (fun r:Int×Int=>.tuple #[.int .i64 r.1,.int .i64 r.2])) (fun(t:ByteArray×Value)=>VG)] [] [.G,.I .i64,.I .i64] [(0,.S x0)] .o Go.Proofs.Tryz.func35 rfl rfl ⟨rfl,trivial⟩ rfl (by kernel_rfl) (by kernel_rfl)
noncomputable def KE9:CalleeS Go.Proofs.Tryz.prog:=mkC KDg KDm [.S] [.G,.I .i64,.I .i64] (fun(t:ByteArray)=>Xj t) (fun(t:ByteArray)=>KE8 t)
def VW (x0:Array Value) (x1:Array Value):M (Bool):=do
 let Xx2←mkB KH x0
 let Xx3←mkB KH x1
 let Xx5←ldG 4 Xx2
 let Xx6←ldG 4 Xx3
 let Xx7←JD Xx5 Xx6
 M.pure (Xx7==0)
theorem KAd (x0:Array Value) (x1:Array Value):ZG Go.Proofs.Tryz.prog 36 #[.agg x0,.agg x1] (fun(r:Bool)=>.bool r) (VW x0 x1):=
 KU [Ym] [] [.B] [(0,.G x0),(1,.G x1)] .o Go.Proofs.Tryz.func36 rfl rfl ⟨rfl,rfl,trivial⟩ rfl (by kernel_rfl) (by kernel_rfl)
noncomputable def KAe:CalleeS Go.Proofs.Tryz.prog:=mkC zB zL [.G,.G] [.B] (fun(t:Array Value×Array Value)=>VW t.1 t.2) (fun(t:Array Value×Array Value)=>KAd t.1 t.2)
end Gx
namespace Gx
open Go
def VM (x0:Array Value):M (Bool):=do
 let Xx2←mkB KH x0
 let Xx5←UI
 let Xx6←M.ite (!Xx5) (do
  M.pure true
  ) (do
  let Xx7←ldG 4 Xx2
  let Xx8←U1 Xx7
  M.pure (Xx8 !=0)
  )
 M.ite Xx6 (do
  let Xx10←UI
  M.pure Xx10
  ) (do
  let Xx12←ldG 4 Xx2
  let Xx13←VV Xx12
  let Xx15←Xj Xx13
  let Xx16←mkB KH (#[.int .i64 0,.int .i64 0,.string ByteArray.empty,.slice none 0 0]:Array Value)
  M.need (Xx15.1.size=4)
  stG Xx16 Xx15.1
  M.ite (Xx15.2.2==3) (do
   M.pure true
   ) (do
   let Xx22←M.ite (decide ((Xx13.size:Int)>16384)) (do
    M.pure true
    ) (do
    let Xx23←M.ite (Xx15.2.2==0) (do
     M.pure (Xx15.2.1==(Xx13.size:Int))
     ) (do
     M.pure false
     )
    let Xx24←M.ite Xx23 (do
     let Xx25←ldG 4 Xx16
     let Xx26←ldG 4 Xx2
     let Xx27←VW Xx25 Xx26
     M.pure Xx27
     ) (do
     M.pure false
     )
    M.pure Xx24
    )
   M.pure Xx22
   )
  )
theorem GL (x0:Array Value):ZG Go.Proofs.Tryz.prog 9 #[.agg x0] (fun(r:Bool)=>.bool r) (VM x0):=
 KU [za,zV,KAa,KE9,KAe] [] [.B] [(0,.G x0)] .o Go.Proofs.Tryz.func9 rfl rfl ⟨rfl,trivial⟩ rfl (by kernel_rfl) (by kernel_rfl)
def JH (x0:Int) (x1:Int):M (Value⊕(Unit)):=do
 M.pure (.inl (Value.iface WR (.agg (#[.int .i64 x0,.int .i64 x1]:Array Value))))
theorem Ji (x0:Int) (x1:Int):J3 Go.Proofs.Tryz.prog 105 #[.int .i64 x0,.int .i64 x1] (fun(r:Unit)=>.tuple #[]) (JH x0 x1):=by
 refine Zj [(0,.int .i64 x0),(1,.int .i64 x1)] Go.Proofs.Tryz.func105 rfl rfl (Nat.le_of_ble_eq_true rfl) (Z8 ⟨rfl,rfl,trivial⟩) (fun w0 w Q R X a hret hthr hE hR H=>?_)
 unfold JH at H
 refine KC ?_
 refine KB (v:=.int .i64 x0) rfl rfl hE rfl (KF hE rfl) (fun a hE=>?_)
 refine KB (v:=.int .i64 x1) rfl rfl hE rfl (KF hE rfl) (fun a hE=>?_)
 refine KB (v:=.agg (#[.int .i64 x0,.int .i64 x1]:Array Value)) rfl rfl hE rfl (Vs hE rfl KQj KRx (by rfl)) (fun a hE=>?_)
 refine KB (v:=(Value.iface WR (.agg (#[.int .i64 x0,.int .i64 x1]:Array Value)))) rfl rfl hE rfl (KCX hE rfl KRv) (fun a hE=>?_)
 exact KKL hE rfl (hthr _ _ hR H)
def ZN (x0:Option Addr):M (Int):=do
 let Xx4←nilP x0
 let Xx5←ldL ((Xx4).add 0)
 M.ite (decide ((Xx5.len:Int)>0)) (do
  let Xx7←nilP x0
  let Xx8←ldL ((Xx7).add 0)
  let Xx9←ixL Xx8 0 4
  let Xx10←ldI .i64 ((Xx9).add 3)
  M.pure Xx10
  ) (do
  let Xx12←nilP x0
  let Xx13←ldI .i64 ((Xx12).add 1)
  M.pure Xx13
  )
theorem Zg (x0:Option Addr):ZG Go.Proofs.Tryz.prog 106 #[.pointer x0] (fun(r:Int)=>.int .i64 r) (ZN x0):=
 KU [] [0,3,9,16] [.I .i64] [(0,.P x0)] .o Go.Proofs.Tryz.func106 rfl rfl ⟨rfl,trivial⟩ rfl (by kernel_rfl) (by kernel_rfl)
def ZQ (x0:Option Addr) (x1:Int) (x2:ByteArray):M (Bool):=do
 let Xx3←nilP x0
 let Xx4←ldL ((Xx3).add 0)
 let Xx5←M.ite (decide ((Xx4.len:Int)>0)) (do
  let Xx6←nilP x0
  let Xx7←ldL ((Xx6).add 0)
  let Xx8←ixL Xx7 0 4
  let Xx9←ldI .i64 ((Xx8).add 0)
  M.pure (Xx9==x1)
  ) (do
  M.pure false
  )
 let Xx10←M.ite Xx5 (do
  let Xx11←nilP x0
  let Xx12←ldL ((Xx11).add 0)
  let Xx13←ixL Xx12 0 4
  let Xx14←ldS ((Xx13).add 1)
  M.pure (sEq Xx14 x2)
  ) (do
  M.pure false
  )
 M.pure Xx10
theorem Za (x0:Option Addr) (x1:Int) (x2:ByteArray):ZG Go.Proofs.Tryz.prog 107 #[.pointer x0,.int .i64 x1,.string x2] (fun(r:Bool)=>.bool r) (ZQ x0 x1 x2):=
 KU [] [0,7,14,25] [.B] [(0,.P x0),(1,.I .i64 x1),(2,.S x2)] .o Go.Proofs.Tryz.func107 rfl rfl ⟨rfl,rfl,rfl,trivial⟩ rfl (by kernel_rfl) (by kernel_rfl)
def UA (Cc1:Option Addr):M (Value⊕(Unit)):=do
 let Xx2←nilP Cc1
 let Xx3←ldL ((Xx2).add 0)
 let Xx4←slL Xx3 1 Xx3.len 4
 let Xx5←nilP Cc1
 stV ((Xx5).add 0) ((Xx4:Sl).v)
 M.pure (.inr ())
def UJ (x0:Option Addr) (x1:Int) (x2:ByteArray):M (Value⊕(Unit)):=do
 let Xx8←ZQ x0 x1 x2
 M.ite (!Xx8) (do
  let Xx9←ZN x0
  thr (JH Xx9 160) fun Xx10=>do
   UA x0
  ) (do
  UA x0
  )
theorem Xk (x0:Option Addr) (x1:Int) (x2:ByteArray):J3 Go.Proofs.Tryz.prog 65 #[.pointer x0,.int .i64 x1,.string x2] (fun(r:Unit)=>.tuple #[]) (UJ x0 x1 x2):=by
 refine Zj [(0,.pointer x0),(1,.int .i64 x1),(2,.string x2)] Go.Proofs.Tryz.func65 rfl rfl (Nat.le_of_ble_eq_true rfl) (Z8 ⟨rfl,rfl,rfl,trivial⟩) (fun w0 w Q R X a hret hthr hE hR H=>?_)
 unfold UJ at H
 refine Kz (fun a w=>Env (⟨22,[]⟩:Frm) a [(0,.pointer x0)]∧Rest w0 w∧(UA x0).wp w.heap Q) ?_ ?_
 ·rintro a w ⟨hE,hR,H⟩
  unfold UA at H
  refine KC ?_
  refine KB (v:=.pointer x0) rfl rfl hE rfl (KF hE rfl) (fun a hE=>?_)
  refine KB (v:=.pointer x0) rfl rfl hE rfl (KF hE rfl) (fun a hE=>?_)
  obtain⟨Xx2,qXx2,H⟩:=H
  refine KB (v:=.pointer (some Xx2)) rfl rfl hE rfl (KO hE (Zu rfl (congrArg Value.pointer qXx2))) (fun a hE=>?_)
  refine KB (v:=.pointer (some ((Xx2).add 0))) rfl rfl hE rfl (KD hE rfl YO) (fun a hE=>?_)
  obtain⟨Xx3,qXx3,H⟩:=H
  refine KB (v:=(Xx3:Sl).v) rfl rfl hE rfl (KS hE rfl sc22 qXx3) (fun a hE=>?_)
  obtain⟨Xx4,qXx4,H⟩:=H
  refine KB (v:=(Xx4:Sl).v) rfl rfl hE rfl (KA2 hE rfl rfl un22 sz29 qXx4) (fun a hE=>?_)
  obtain⟨Xx5,qXx5,H⟩:=H
  refine KB (v:=.pointer (some Xx5)) rfl rfl hE rfl (KO hE (Zu rfl (congrArg Value.pointer qXx5))) (fun a hE=>?_)
  refine KB (v:=.pointer (some ((Xx5).add 0))) rfl rfl hE rfl (KD hE rfl YO) (fun a hE=>?_)
  obtain⟨u_6,qu_6,H⟩:=H
  refine JA rfl rfl hE hR (ZB hE rfl rfl sz22 qu_6) (fun a w hE hR hh=>?_)
  replace H:=M.at hh H;clear hh
  refine KN ?_
  exact hret _ _ _ () _ hE hR (Kn hE rfl RV.nil) rfl H
 ·skip
  refine KR (fun K hK_7=>?_)
  refine KC ?_
  refine KB (v:=.pointer x0) rfl rfl hE rfl (KF hE rfl) (fun a hE=>?_)
  refine KB (v:=.int .i64 x1) rfl rfl hE rfl (KF hE rfl) (fun a hE=>?_)
  refine KB (v:=.string x2) rfl rfl hE rfl (KF hE rfl) (fun a hE=>?_)
  refine Zd hE hR ZP rfl (Za x0 x1 x2) (M.unbind H) (fun Xx8 a w ea hR H=>?_)
  have hE:=Env.put_some hE rfl ea;clear ea
  refine KB (v:=.bool (!Xx8)) rfl rfl hE rfl (r_un hE rfl KJA) (fun a hE=>?_)
  refine KN ?_
  refine hK_7 _ _ ?_
  refine ZA (!Xx8) hE rfl (fun hb=>?_) (fun hb=>?_)
  ·replace H:=M.ite_t hb H
   refine KC ?_
   refine KB (v:=.pointer x0) rfl rfl hE rfl (KF hE rfl) (fun a hE=>?_)
   refine Zd hE hR ZX rfl (Zg x0) (M.unbind H) (fun Xx9 a w ea hR H=>?_)
   have hE:=Env.put_some hE rfl ea;clear ea
   refine KZ hE hR JB rfl (Ji Xx9 160) H (fun _ _ hR HQ=>hthr _ _ hR HQ) (fun Xx10 a w ea hR H=>?_)
   have hE:=Env.put_some hE rfl ea;clear ea
   refine KN ?_
   exact⟨hE.cut (.cons rfl Subs.nil),hR,H⟩
  ·replace H:=M.ite_f hb H
   refine Zq ?_
   exact⟨hE.cut (.cons rfl Subs.nil),hR,H⟩
def Kc (x0:Option Addr) (x1:ByteArray):M (Value⊕(Unit)):=do
 thr (UJ x0 4 x1) fun Xx1=>do
  M.pure (.inr ())
theorem Kl (x0:Option Addr) (x1:ByteArray):J3 Go.Proofs.Tryz.prog 66 #[.pointer x0,.string x1] (fun(r:Unit)=>.tuple #[]) (Kc x0 x1):=by
 refine Zj [(0,.pointer x0),(1,.string x1)] Go.Proofs.Tryz.func66 rfl rfl (Nat.le_of_ble_eq_true rfl) (Z8 ⟨rfl,rfl,trivial⟩) (fun w0 w Q R X a hret hthr hE hR H=>?_)
 unfold Kc at H
 refine KC ?_
 refine KB (v:=.pointer x0) rfl rfl hE rfl (KF hE rfl) (fun a hE=>?_)
 refine KB (v:=.string x1) rfl rfl hE rfl (KF hE rfl) (fun a hE=>?_)
 refine KZ hE hR XE rfl (Xk x0 4 x1) H (fun _ _ hR HQ=>hthr _ _ hR HQ) (fun Xx1 a w ea hR H=>?_)
 have hE:=Env.put_some hE rfl ea;clear ea
 refine KN ?_
 exact hret _ _ _ () _ hE hR (Kn hE rfl RV.nil) rfl H
def Jn (Cc5:Sl) (Cc6:ByteArray) (Cc7:Int) (self1:(Int)→M (Int)):(Int)→M (Int):=fun s=>match s with
 |Xx4=>do
  M.ite (decide (Xx4<Cc7)) (do
   let Xx14←ixL Cc5 Xx4 1
   let Xx15←ldS Xx14
   M.ite (sEq Cc6 Xx15) (do
    M.pure Xx4
    ) (do
    self1 (IntKind.wrap .i64 (Xx4+1))
    )
   ) (do
   M.pure (-1)
   )
def Zr (x0:Sl) (x1:ByteArray):M (Int):=do
 M.loop (Jn x0 x1 (x0.len:Int)) 0
theorem Yn (x0:Sl) (x1:ByteArray):ZG Go.Proofs.Tryz.prog 195 #[(x0:Sl).v,.string x1] (fun(r:Int)=>.int .i64 r) (Zr x0 x1):=
 KU [] [] [.I .i64] [(0,.L x0),(1,.S x1)] (.q .o (.q (.q .o (.b (.l [(0,.L),(1,.S),(7,.I .i64)] [(8,.I .i64)] (fun(t:Sl×ByteArray×Int)=>Jn t.1 t.2.1 t.2.2) (fun _=>.o)))) .o)) Go.Proofs.Tryz.func195 rfl rfl ⟨rfl,rfl,trivial⟩ rfl (by kernel_rfl) (by kernel_rfl)
noncomputable def Yo:CalleeS Go.Proofs.Tryz.prog:=mkC YL YN [.L,.S] [.I .i64] (fun(t:Sl×ByteArray)=>Zr t.1 t.2) (fun(t:Sl×ByteArray)=>Yn t.1 t.2)
def Xl (x0:ByteArray) (x1:ByteArray):M (Int):=do
 let Xx3←WB x0 (⟨#[32]⟩:ByteArray)
 let Xx4←Zr Xx3 x1
 M.pure (IntKind.wrap .i64 (Xx4+1))
theorem KAf (x0:ByteArray) (x1:ByteArray):ZG Go.Proofs.Tryz.prog 143 #[.string x0,.string x1] (fun(r:Int)=>.int .i64 r) (Xl x0 x1):=
 KU [Nq,Yo] [] [.I .i64] [(0,.S x0),(1,.S x1)] .o Go.Proofs.Tryz.func143 rfl rfl ⟨rfl,rfl,trivial⟩ rfl (by kernel_rfl) (by kernel_rfl)
def UB (Cc3:Option Addr) (Cc4:Addr):M (Value⊕(Array Value)):=do
 let Xx6←nilP Cc3
 let Xx7←ldL ((Xx6).add 0)
 let Xx8←ixL Xx7 0 4
 let Xx9←ldG 4 Xx8
 let Xx10←mkB KX (#[.int .i64 0,.string ByteArray.empty,.int .i64 0,.int .i64 0]:Array Value)
 M.need (Xx9.size=4)
 stG Xx10 Xx9
 let Xx13←nilP Cc3
 let Xx14←ldL ((Xx13).add 0)
 let Xx15←slL Xx14 1 Xx14.len 4
 let Xx16←nilP Cc3
 stV ((Xx16).add 0) ((Xx15:Sl).v)
 let Xx19←ldG 4 Xx10
 M.need (Xx19.size=4)
 stG Cc4 Xx19
 let Rr21←ldG 4 Cc4
 M.pure (.inr Rr21)
def ZD (x0:Option Addr) (x1:Int):M (Value⊕(Array Value)):=do
 let Xx2←mkB KX (#[.int .i64 0,.string ByteArray.empty,.int .i64 0,.int .i64 0]:Array Value)
 let Xx23←nilP x0
 let Xx24←ldL ((Xx23).add 0)
 let Xx25←M.ite ((Xx24.len:Int)==0) (do
  M.pure true
  ) (do
  let Xx26←nilP x0
  let Xx27←ldL ((Xx26).add 0)
  let Xx28←ixL Xx27 0 4
  let Xx29←ldI .i64 ((Xx28).add 0)
  M.pure (Xx29 !=x1)
  )
 M.ite Xx25 (do
  let Xx30←ZN x0
  thr (JH Xx30 160) fun Xx31=>do
   UB x0 Xx2
  ) (do
  UB x0 Xx2
  )
theorem Zh (x0:Option Addr) (x1:Int):J3 Go.Proofs.Tryz.prog 144 #[.pointer x0,.int .i64 x1] (fun(r:Array Value)=>.agg r) (ZD x0 x1):=by
 refine Zj [(0,.pointer x0),(1,.int .i64 x1)] Go.Proofs.Tryz.func144 rfl rfl (Nat.le_of_ble_eq_true rfl) (Z8 ⟨rfl,rfl,trivial⟩) (fun w0 w Q R X a hret hthr hE hR H=>?_)
 unfold ZD at H
 refine KR (fun K hK_1=>?_)
 refine KC ?_
 obtain⟨Xx2,qXx2,H⟩:=H
 refine JM (v:=.pointer (some Xx2)) rfl rfl hE rfl hR (Z0 zr29 qXx2) (fun a w hE hR hh=>?_)
 replace H:=M.at hh H;clear hh
 refine KN ?_
 refine hK_1 _ _ ?_
 refine Kz (fun a w=>Env (⟨41,[]⟩:Frm) a [(0,.pointer x0),(4,.pointer (some Xx2))]∧Rest w0 w∧(UB x0 Xx2).wp w.heap Q) ?_ ?_
 ·rintro a w ⟨hE,hR,H⟩
  unfold UB at H
  refine KR (fun K hK_5=>?_)
  refine KC ?_
  refine KB (v:=.pointer x0) rfl rfl hE rfl (KF hE rfl) (fun a hE=>?_)
  obtain⟨Xx6,qXx6,H⟩:=H
  refine KB (v:=.pointer (some Xx6)) rfl rfl hE rfl (KO hE (Zu rfl (congrArg Value.pointer qXx6))) (fun a hE=>?_)
  refine KB (v:=.pointer (some ((Xx6).add 0))) rfl rfl hE rfl (KD hE rfl YO) (fun a hE=>?_)
  obtain⟨Xx7,qXx7,H⟩:=H
  refine KB (v:=(Xx7:Sl).v) rfl rfl hE rfl (KS hE rfl sc22 qXx7) (fun a hE=>?_)
  obtain⟨Xx8,qXx8,H⟩:=H
  refine KB (v:=.pointer (some Xx8)) rfl rfl hE rfl (Ua hE rfl rfl un22 sz29 qXx8) (fun a hE=>?_)
  obtain⟨Xx9,qXx9,H⟩:=H
  refine KB (v:=.agg Xx9) rfl rfl hE rfl (Ui hE rfl ag29 qXx9) (fun a hE=>?_)
  obtain⟨Xx10,qXx10,H⟩:=H
  refine JM (v:=.pointer (some Xx10)) rfl rfl hE rfl hR (Z0 zr29 qXx10) (fun a w hE hR hh=>?_)
  replace H:=M.at hh H;clear hh
  obtain⟨qz,H⟩:=H
  obtain⟨u_11,qu_11,H⟩:=H
  refine JA rfl rfl hE hR (Kh hE rfl rfl sz29 qz qu_11) (fun a w hE hR hh=>?_)
  replace H:=M.at hh H;clear hh
  refine KN ?_
  refine hK_5 _ _ ?_
  refine KR (fun K hK_12=>?_)
  refine KC ?_
  refine KB (v:=.pointer x0) rfl rfl hE rfl (KF hE rfl) (fun a hE=>?_)
  refine KB (v:=.pointer x0) rfl rfl hE rfl (KF hE rfl) (fun a hE=>?_)
  obtain⟨Xx13,qXx13,H⟩:=H
  refine KB (v:=.pointer (some Xx13)) rfl rfl hE rfl (KO hE (Zu rfl (congrArg Value.pointer qXx13))) (fun a hE=>?_)
  refine KB (v:=.pointer (some ((Xx13).add 0))) rfl rfl hE rfl (KD hE rfl YO) (fun a hE=>?_)
  obtain⟨Xx14,qXx14,H⟩:=H
  refine KB (v:=(Xx14:Sl).v) rfl rfl hE rfl (KS hE rfl sc22 qXx14) (fun a hE=>?_)
  obtain⟨Xx15,qXx15,H⟩:=H
  refine KB (v:=(Xx15:Sl).v) rfl rfl hE rfl (KA2 hE rfl rfl un22 sz29 qXx15) (fun a hE=>?_)
  obtain⟨Xx16,qXx16,H⟩:=H
  refine KB (v:=.pointer (some Xx16)) rfl rfl hE rfl (KO hE (Zu rfl (congrArg Value.pointer qXx16))) (fun a hE=>?_)
  refine KB (v:=.pointer (some ((Xx16).add 0))) rfl rfl hE rfl (KD hE rfl YO) (fun a hE=>?_)
  obtain⟨u_17,qu_17,H⟩:=H
  refine JA rfl rfl hE hR (ZB hE rfl rfl sz22 qu_17) (fun a w hE hR hh=>?_)
  replace H:=M.at hh H;clear hh
  refine KN ?_
  refine hK_12 _ _ ?_
  refine KR (fun K hK_18=>?_)
  refine KC ?_
  obtain⟨Xx19,qXx19,H⟩:=H
  refine KB (v:=.agg Xx19) rfl rfl hE rfl (Ui hE rfl ag29 qXx19) (fun a hE=>?_)
  obtain⟨qz,H⟩:=H
  obtain⟨u_20,qu_20,H⟩:=H
  refine JA rfl rfl hE hR (Kh hE rfl rfl sz29 qz qu_20) (fun a w hE hR hh=>?_)
  replace H:=M.at hh H;clear hh
  refine KN ?_
  refine hK_18 _ _ ?_
  refine Uv ?_
  obtain⟨Rr21,qRr21,H⟩:=H
  exact hret _ _ _ Rr21 _ hE hR (Kn hE rfl (RV.cellG rfl ag29 qRr21 RV.nil)) rfl H
 ·skip
  refine KR (fun K hK_22=>?_)
  refine KC ?_
  refine KB (v:=.pointer x0) rfl rfl hE rfl (KF hE rfl) (fun a hE=>?_)
  obtain⟨Xx23,qXx23,H⟩:=H
  refine KB (v:=.pointer (some Xx23)) rfl rfl hE rfl (KO hE (Zu rfl (congrArg Value.pointer qXx23))) (fun a hE=>?_)
  refine KB (v:=.pointer (some ((Xx23).add 0))) rfl rfl hE rfl (KD hE rfl YO) (fun a hE=>?_)
  obtain⟨Xx24,qXx24,H⟩:=H
  refine KB (v:=(Xx24:Sl).v) rfl rfl hE rfl (KS hE rfl sc22 qXx24) (fun a hE=>?_)
  refine KB (v:=.int .i64 (Xx24.len:Int)) rfl rfl hE rfl (KAy hE rfl 29 un22) (fun a hE=>?_)
  refine KB (v:=.bool ((Xx24.len:Int)==0)) rfl rfl hE rfl (Kk hE rfl rfl Ki W9) (fun a hE=>?_)
  refine KB (v:=.bool ((Xx24.len:Int)==0)) rfl rfl hE rfl (KF hE rfl) (fun a hE=>?_)
  refine KAz (n:=(⟨41,[]⟩:Frm)) (w0:=w0) 10 (fun Xx25:Bool=>[(0,.pointer x0),(4,.pointer (some Xx2)),(22,.bool Xx25)]) (M.unbind H) (fun Kr hKr H=>?_) ?_
  ·rcases Uj ((Xx24.len:Int)==0)with hb|hb
   ·replace H:=M.ite_t hb H
    have hE:=hE.reb 12 ((Xx24.len:Int)==0) true hb rfl
    refine Uw rfl hE rfl rfl rfl (fun a ea=>?_)
    have hE:=Env.put_some hE rfl ea;clear ea
    refine Uw rfl hE rfl rfl rfl (fun a ea=>?_)
    have hE:=Env.put_some hE rfl ea;clear ea
    refine Uw rfl hE rfl rfl rfl (fun a ea=>?_)
    have hE:=Env.put_some hE rfl ea;clear ea
    refine Uw rfl hE rfl rfl rfl (fun a ea=>?_)
    have hE:=Env.put_some hE rfl ea;clear ea
    refine Uw rfl hE rfl rfl rfl (fun a ea=>?_)
    have hE:=Env.put_some hE rfl ea;clear ea
    refine Uw rfl hE rfl rfl rfl (fun a ea=>?_)
    have hE:=Env.put_some hE rfl ea;clear ea
    refine Uw rfl hE rfl rfl rfl (fun a ea=>?_)
    have hE:=Env.put_some hE rfl ea;clear ea
    refine Uw rfl hE rfl rfl rfl (fun a ea=>?_)
    have hE:=Env.put_some hE rfl ea;clear ea
    refine Uw rfl hE rfl rfl rfl (fun a ea=>?_)
    have hE:=Env.put_some hE rfl ea;clear ea
    refine KB rfl rfl hE rfl (Jj hE rfl rfl) (fun a hE=>?_)
    refine KN ?_
    exact hKr _ _ _ (hE.cut (.cons rfl (.cons rfl (.cons rfl Subs.nil)))) hR H
   ·replace H:=M.ite_f hb H
    have hE:=hE.reb 12 ((Xx24.len:Int)==0) false hb rfl
    refine t_on rfl hE rfl rfl rfl ?_
    refine KB (v:=.pointer x0) rfl rfl hE rfl (KF hE rfl) (fun a hE=>?_)
    refine t_on rfl hE rfl rfl rfl ?_
    obtain⟨Xx26,qXx26,H⟩:=H
    refine KB (v:=.pointer (some Xx26)) rfl rfl hE rfl (KO hE (Zu rfl (congrArg Value.pointer qXx26))) (fun a hE=>?_)
    refine t_on rfl hE rfl rfl rfl ?_
    refine KB (v:=.pointer (some ((Xx26).add 0))) rfl rfl hE rfl (KD hE rfl YO) (fun a hE=>?_)
    refine t_on rfl hE rfl rfl rfl ?_
    obtain⟨Xx27,qXx27,H⟩:=H
    refine KB (v:=(Xx27:Sl).v) rfl rfl hE rfl (KS hE rfl sc22 qXx27) (fun a hE=>?_)
    refine t_on rfl hE rfl rfl rfl ?_
    obtain⟨Xx28,qXx28,H⟩:=H
    refine KB (v:=.pointer (some Xx28)) rfl rfl hE rfl (Ua hE rfl rfl un22 sz29 qXx28) (fun a hE=>?_)
    refine t_on rfl hE rfl rfl rfl ?_
    refine KB (v:=.pointer (some ((Xx28).add 0))) rfl rfl hE rfl (KD hE rfl KCh) (fun a hE=>?_)
    refine t_on rfl hE rfl rfl rfl ?_
    obtain⟨Xx29,qXx29,H⟩:=H
    refine KB (v:=.int .i64 Xx29) rfl rfl hE rfl (KS hE rfl sc3 qXx29) (fun a hE=>?_)
    refine t_on rfl hE rfl rfl rfl ?_
    refine KB (v:=.int .i64 x1) rfl rfl hE rfl (KF hE rfl) (fun a hE=>?_)
    refine t_on rfl hE rfl rfl rfl ?_
    refine KB (v:=.bool (Xx29 !=x1)) rfl rfl hE rfl (Kk hE rfl rfl Ki KDZ) (fun a hE=>?_)
    refine KB rfl rfl hE rfl (Z3 hE rfl rfl) (fun a hE=>?_)
    refine KN ?_
    exact hKr _ _ _ (hE.cut (.cons rfl (.cons rfl (.cons rfl Subs.nil)))) hR H
  ·intro Xx25 a w hE hR H
   refine KN ?_
   refine hK_22 _ _ ?_
   refine ZA Xx25 hE rfl (fun hb=>?_) (fun hb=>?_)
   ·replace H:=M.ite_t hb H
    refine KC ?_
    refine KB (v:=.pointer x0) rfl rfl hE rfl (KF hE rfl) (fun a hE=>?_)
    refine Zd hE hR ZX rfl (Zg x0) (M.unbind H) (fun Xx30 a w ea hR H=>?_)
    have hE:=Env.put_some hE rfl ea;clear ea
    refine KZ hE hR JB rfl (Ji Xx30 160) H (fun _ _ hR HQ=>hthr _ _ hR HQ) (fun Xx31 a w ea hR H=>?_)
    have hE:=Env.put_some hE rfl ea;clear ea
    refine KN ?_
    exact⟨hE.cut (.cons rfl (.cons rfl Subs.nil)),hR,H⟩
   ·replace H:=M.ite_f hb H
    refine Zq ?_
    exact⟨hE.cut (.cons rfl (.cons rfl Subs.nil)),hR,H⟩
def U3 (x0:Int):M (Array Value):=do
 let Xx2←mkB ZI (#[.int .i64 0,.int .i64 0]:Array Value)
 M.need ((#[.int .i64 x0,.int .i64 32]:Array Value).size=2)
 stG Xx2 (#[.int .i64 x0,.int .i64 32]:Array Value)
 let Rr5←ldG 2 Xx2
 M.pure Rr5
theorem KGD (x0:Int):ZG Go.Proofs.Tryz.prog 196 #[.int .i64 x0] (fun(r:Array Value)=>.agg r) (U3 x0):=
 KU [] [] [.G] [(0,.I .i64 x0)] .o Go.Proofs.Tryz.func196 rfl rfl ⟨rfl,trivial⟩ rfl (by kernel_rfl) (by kernel_rfl)
noncomputable def KBh:CalleeS Go.Proofs.Tryz.prog:=mkC KEn KEw [.I .i64] [.G] (fun(t:Int)=>U3 t) (fun(t:Int)=>KGD t)
def Zk (x0:Int):M (Array Value):=do
 let Xx2←mkB ZI (#[.int .i64 0,.int .i64 0]:Array Value)
 M.need ((#[.int .i64 x0,.int .i64 x0]:Array Value).size=2)
 stG Xx2 (#[.int .i64 x0,.int .i64 x0]:Array Value)
 let Rr5←ldG 2 Xx2
 M.pure Rr5
theorem KGE (x0:Int):ZG Go.Proofs.Tryz.prog 197 #[.int .i64 x0] (fun(r:Array Value)=>.agg r) (Zk x0):=
 KU [] [] [.G] [(0,.I .i64 x0)] .o Go.Proofs.Tryz.func197 rfl rfl ⟨rfl,trivial⟩ rfl (by kernel_rfl) (by kernel_rfl)
noncomputable def KBi:CalleeS Go.Proofs.Tryz.prog:=mkC KEo KEx [.I .i64] [.G] (fun(t:Int)=>Zk t) (fun(t:Int)=>KGE t)
def Y4 (Cc110:Addr) (Cc111:Int) (Xx109:Bool):M (Array Value):=do
 M.ite Xx109 (do
  let Xx113←Zk 1
  let Xx114←Zk 1
  let Xx115←Xb [(0,2),(2,2),(4,2),(6,2),(8,2)] (Array.replicate 10 (.int .i64 0):Array Value) [(1,.agg Xx113),(4,.agg Xx114)]
  M.need (Xx115.size=10)
  stG Cc110 Xx115
  let Rr117←ldG 10 Cc110
  M.pure Rr117
  ) (do
  M.ite (Cc111==55) (do
   let Xx120←Zk 2
   let Xx121←Xb [(0,2),(2,2),(4,2),(6,2),(8,2)] (Array.replicate 10 (.int .i64 0):Array Value) [(4,.agg Xx120)]
   M.need (Xx121.size=10)
   stG Cc110 Xx121
   let Rr123←ldG 10 Cc110
   M.pure Rr123
   ) (do
   M.ite (Cc111==57) (do
    let Xx126←Zk 3
    let Xx127←Xb [(0,2),(2,2),(4,2),(6,2),(8,2)] (Array.replicate 10 (.int .i64 0):Array Value) [(0,.agg Xx126)]
    M.need (Xx127.size=10)
    stG Cc110 Xx127
    let Rr129←ldG 10 Cc110
    M.pure Rr129
    ) (do
    M.ite (Cc111==58) (do
     let Xx132←Zk 1
     let Xx133←Zk 1
     let Xx134←Xb [(0,2),(2,2),(4,2),(6,2),(8,2)] (Array.replicate 10 (.int .i64 0):Array Value) [(0,.agg Xx132),(3,.agg Xx133)]
     M.need (Xx134.size=10)
     stG Cc110 Xx134
     let Rr136←ldG 10 Cc110
     M.pure Rr136
     ) (do
     M.need ((Array.replicate 10 (.int .i64 0):Array Value).size=10)
     stG Cc110 (Array.replicate 10 (.int .i64 0):Array Value)
     let Rr139←ldG 10 Cc110
     M.pure Rr139
     )
    )
   )
  )
def WW (Cc90:Addr) (Cc91:Int) (Xx89:Bool):M (Array Value):=do
 M.ite Xx89 (do
  let Xx93←Zk 1
  let Xx94←Xb [(0,2),(2,2),(4,2),(6,2),(8,2)] (Array.replicate 10 (.int .i64 0):Array Value) [(1,.agg Xx93)]
  M.need (Xx94.size=10)
  stG Cc90 Xx94
  let Rr96←ldG 10 Cc90
  M.pure Rr96
  ) (do
  M.ite (Cc91==28) (do
   let Xx99←Zk 2
   let Xx100←Xb [(0,2),(2,2),(4,2),(6,2),(8,2)] (Array.replicate 10 (.int .i64 0):Array Value) [(1,.agg Xx99)]
   M.need (Xx100.size=10)
   stG Cc90 Xx100
   let Rr102←ldG 10 Cc90
   M.pure Rr102
   ) (do
   M.ite (Cc91==34) (do
    let Xx105←Zk 1
    let Xx106←Xb [(0,2),(2,2),(4,2),(6,2),(8,2)] (Array.replicate 10 (.int .i64 0):Array Value) [(3,.agg Xx105)]
    M.need (Xx106.size=10)
    stG Cc90 Xx106
    let Rr108←ldG 10 Cc90
    M.pure Rr108
    ) (do
    M.ite (Cc91==54) (do
     Y4 Cc90 Cc91 (Cc91==54)
     ) (do
     Y4 Cc90 Cc91 (Cc91==56)
     )
    )
   )
  )
def VX (Cc76:Addr) (Cc77:Int) (Xx75:Bool):M (Array Value):=do
 M.ite Xx75 (do
  let Xx79←U3 1
  let Xx80←Xb [(0,2),(2,2),(4,2),(6,2),(8,2)] (Array.replicate 10 (.int .i64 0):Array Value) [(4,.agg Xx79)]
  M.need (Xx80.size=10)
  stG Cc76 Xx80
  let Rr82←ldG 10 Cc76
  M.pure Rr82
  ) (do
  M.ite (Cc77==53) (do
   let Xx85←Zk 3
   let Xx86←Xb [(0,2),(2,2),(4,2),(6,2),(8,2)] (Array.replicate 10 (.int .i64 0):Array Value) [(4,.agg Xx85)]
   M.need (Xx86.size=10)
   stG Cc76 Xx86
   let Rr88←ldG 10 Cc76
   M.pure Rr88
   ) (do
   M.ite (Cc77==26) (do
    WW Cc76 Cc77 (Cc77==26)
    ) (do
    M.ite (Cc77==27) (do
     WW Cc76 Cc77 (Cc77==27)
     ) (do
     WW Cc76 Cc77 (Cc77==29)
     )
    )
   )
  )
def WX (Cc68:Addr) (Cc69:Int) (Xx67:Bool):M (Array Value):=do
 M.ite Xx67 (do
  let Xx71←Zk 1
  let Xx72←Xb [(0,2),(2,2),(4,2),(6,2),(8,2)] (Array.replicate 10 (.int .i64 0):Array Value) [(4,.agg Xx71)]
  M.need (Xx72.size=10)
  stG Cc68 Xx72
  let Rr74←ldG 10 Cc68
  M.pure Rr74
  ) (do
  M.ite (Cc69==22) (do
   VX Cc68 Cc69 (Cc69==22)
   ) (do
   M.ite (Cc69==23) (do
    VX Cc68 Cc69 (Cc69==23)
    ) (do
    M.ite (Cc69==50) (do
     VX Cc68 Cc69 (Cc69==50)
     ) (do
     VX Cc68 Cc69 (Cc69==51)
     )
    )
   )
  )
def Y5 (Cc36:Addr) (Cc37:Int) (Xx35:Bool):M (Array Value):=do
 M.ite Xx35 (do
  let Xx39←U3 1
  let Xx40←Xb [(0,2),(2,2),(4,2),(6,2),(8,2)] (Array.replicate 10 (.int .i64 0):Array Value) [(0,.agg Xx39)]
  M.need (Xx40.size=10)
  stG Cc36 Xx40
  let Rr42←ldG 10 Cc36
  M.pure Rr42
  ) (do
  M.ite (Cc37==48) (do
   let Xx45←Xb [(0,2),(2,2),(4,2),(6,2),(8,2)] (Array.replicate 10 (.int .i64 0):Array Value) [(0,.agg (#[.int .i64 0,.int .i64 1]:Array Value))]
   M.need (Xx45.size=10)
   stG Cc36 Xx45
   let Rr47←ldG 10 Cc36
   M.pure Rr47
   ) (do
   M.ite (Cc37==14) (do
    let Xx50←Zk 1
    let Xx51←Zk 1
    let Xx52←Xb [(0,2),(2,2),(4,2),(6,2),(8,2)] (Array.replicate 10 (.int .i64 0):Array Value) [(0,.agg Xx50),(2,.agg Xx51)]
    M.need (Xx52.size=10)
    stG Cc36 Xx52
    let Rr54←ldG 10 Cc36
    M.pure Rr54
    ) (do
    M.ite (Cc37==18) (do
     let Xx57←U3 1
     let Xx58←Xb [(0,2),(2,2),(4,2),(6,2),(8,2)] (Array.replicate 10 (.int .i64 0):Array Value) [(1,.agg Xx57)]
     M.need (Xx58.size=10)
     stG Cc36 Xx58
     let Rr60←ldG 10 Cc36
     M.pure Rr60
     ) (do
     M.ite (Cc37==19) (do
      let Xx63←Zk 1
      let Xx64←Xb [(0,2),(2,2),(4,2),(6,2),(8,2)] (Array.replicate 10 (.int .i64 0):Array Value) [(2,.agg Xx63)]
      M.need (Xx64.size=10)
      stG Cc36 Xx64
      let Rr66←ldG 10 Cc36
      M.pure Rr66
      ) (do
      M.ite (Cc37==20) (do
       WX Cc36 Cc37 (Cc37==20)
       ) (do
       M.ite (Cc37==21) (do
        WX Cc36 Cc37 (Cc37==21)
        ) (do
        WX Cc36 Cc37 (Cc37==52)
        )
       )
      )
     )
    )
   )
  )
def JC (Cc28:Addr) (Cc29:Int) (Xx27:Bool):M (Array Value):=do
 M.ite Xx27 (do
  let Xx31←U3 0
  let Xx32←Xb [(0,2),(2,2),(4,2),(6,2),(8,2)] (Array.replicate 10 (.int .i64 0):Array Value) [(0,.agg Xx31)]
  M.need (Xx32.size=10)
  stG Cc28 Xx32
  let Rr34←ldG 10 Cc28
  M.pure Rr34
  ) (do
  M.ite (Cc29==17) (do
   Y5 Cc28 Cc29 (Cc29==17)
   ) (do
   Y5 Cc28 Cc29 (Cc29==43)
   )
  )
def J9 (Cc20:Addr) (Cc21:Int) (Xx19:Bool):M (Array Value):=do
 M.ite Xx19 (do
  let Xx23←Zk 1
  let Xx24←Xb [(0,2),(2,2),(4,2),(6,2),(8,2)] (Array.replicate 10 (.int .i64 0):Array Value) [(0,.agg Xx23)]
  M.need (Xx24.size=10)
  stG Cc20 Xx24
  let Rr26←ldG 10 Cc20
  M.pure Rr26
  ) (do
  M.ite (Cc21==5) (do
   JC Cc20 Cc21 (Cc21==5)
   ) (do
   M.ite (Cc21==6) (do
    JC Cc20 Cc21 (Cc21==6)
    ) (do
    M.ite (Cc21==7) (do
     JC Cc20 Cc21 (Cc21==7)
     ) (do
     M.ite (Cc21==8) (do
      JC Cc20 Cc21 (Cc21==8)
      ) (do
      M.ite (Cc21==9) (do
       JC Cc20 Cc21 (Cc21==9)
       ) (do
       M.ite (Cc21==10) (do
        JC Cc20 Cc21 (Cc21==10)
        ) (do
        M.ite (Cc21==32) (do
         JC Cc20 Cc21 (Cc21==32)
         ) (do
         JC Cc20 Cc21 (Cc21==33)
         )
        )
       )
      )
     )
    )
   )
  )
def Y6 (Cc6:Addr) (Cc7:Int) (Xx5:Bool):M (Array Value):=do
 M.ite Xx5 (do
  let Xx9←U3 0
  let Xx10←Xb [(0,2),(2,2),(4,2),(6,2),(8,2)] (Array.replicate 10 (.int .i64 0):Array Value) [(1,.agg Xx9)]
  M.need (Xx10.size=10)
  stG Cc6 Xx10
  let Rr12←ldG 10 Cc6
  M.pure Rr12
  ) (do
  M.ite (Cc7==3) (do
   let Xx15←U3 0
   let Xx16←Xb [(0,2),(2,2),(4,2),(6,2),(8,2)] (Array.replicate 10 (.int .i64 0):Array Value) [(3,.agg Xx15)]
   M.need (Xx16.size=10)
   stG Cc6 Xx16
   let Rr18←ldG 10 Cc6
   M.pure Rr18
   ) (do
   M.ite (Cc7==4) (do
    J9 Cc6 Cc7 (Cc7==4)
    ) (do
    M.ite (Cc7==15) (do
     J9 Cc6 Cc7 (Cc7==15)
     ) (do
     M.ite (Cc7==16) (do
      J9 Cc6 Cc7 (Cc7==16)
      ) (do
      M.ite (Cc7==42) (do
       J9 Cc6 Cc7 (Cc7==42)
       ) (do
       M.ite (Cc7==46) (do
        J9 Cc6 Cc7 (Cc7==46)
        ) (do
        J9 Cc6 Cc7 (Cc7==47)
        )
       )
      )
     )
    )
   )
  )
def XP (x0:Int):M (Array Value):=do
 let Xx2←mkB Vc (Array.replicate 10 (.int .i64 0):Array Value)
 M.ite (x0==1) (do
  Y6 Xx2 x0 (x0==1)
  ) (do
  Y6 Xx2 x0 (x0==2)
  )
theorem KCp (x0:Int):ZG Go.Proofs.Tryz.prog 145 #[.int .i64 x0] (fun(r:Array Value)=>.agg r) (XP x0):=
 KU [KBh,KBi] [] [.G] [(0,.I .i64 x0)] (.q .o (.q (.q .o (.b (.q .o (.j [(2,.A),(3,.I .i64),(4,.B)] (fun(t:Addr×Int×Bool)=>Y6 t.1 t.2.1 t.2.2) (.q .o (.q .o (.q .o (.q .o (.j [(2,.A),(3,.I .i64),(13,.B)] (fun(t:Addr×Int×Bool)=>J9 t.1 t.2.1 t.2.2) (.q .o (.q .o (.j [(2,.A),(3,.I .i64),(22,.B)] (fun(t:Addr×Int×Bool)=>JC t.1 t.2.1 t.2.2) (.q .o (.q .o (.j [(2,.A),(3,.I .i64),(33,.B)] (fun(t:Addr×Int×Bool)=>Y5 t.1 t.2.1 t.2.2) (.q .o (.q .o (.q .o (.q .o (.q .o (.q .o (.q .o (.q .o (.q .o (.q .o (.j [(2,.A),(3,.I .i64),(55,.B)] (fun(t:Addr×Int×Bool)=>WX t.1 t.2.1 t.2.2) (.q .o (.q .o (.j [(2,.A),(3,.I .i64),(61,.B)] (fun(t:Addr×Int×Bool)=>VX t.1 t.2.1 t.2.2) (.q .o (.q .o (.q .o (.q .o (.j [(2,.A),(3,.I .i64),(72,.B)] (fun(t:Addr×Int×Bool)=>WW t.1 t.2.1 t.2.2) (.q .o (.q .o (.q .o (.q .o (.q .o (.q .o (.j [(2,.A),(3,.I .i64),(86,.B)] (fun(t:Addr×Int×Bool)=>Y4 t.1 t.2.1 t.2.2) .o))))))))))))))))))))))))))))))))))))))))) .o)) Go.Proofs.Tryz.func145 rfl rfl ⟨rfl,trivial⟩ rfl (by kernel_rfl) (by kernel_rfl)
def UC (Cc5:Option Addr):M (Value⊕(Unit)):=do
 thr (Kc Cc5 (⟨#[41]⟩:ByteArray)) fun Xx6=>do
  M.pure (.inr ())
def JY (Cc3:Option Addr) (Cc4:Addr):M (Value⊕(Unit)):=do
 let Xx8←ldI .i64 ((Cc4).add 1)
 let Xx9←M.ite (Xx8==32) (do
  let Xx10←ZQ Cc3 4 (⟨#[44]⟩:ByteArray)
  M.pure Xx10
  ) (do
  M.pure false
  )
 M.ite Xx9 (do
  thr (Kc Cc3 (⟨#[44]⟩:ByteArray)) fun Xx12=>do
   let Xx13←ZN Cc3
   thr (JH Xx13 3) fun Xx14=>do
    UC Cc3
  ) (do
  UC Cc3
  )
def JZ (self1:(Int)→M (Value⊕(Unit))) (Cc31:Value) (Cc33:Int):M (Value⊕(Unit)):=do
 thr (KCY Go.Proofs.Tryz.prog (fun r:Unit=>.tuple #[]) Cc31 [.int .i64 Cc33]) fun Xx34=>do
  self1 (IntKind.wrap .i64 (Cc33+1))
def Uq (Cc17:Option Addr) (Cc18:Value) (Cc19:Addr) (self1:(Int)→M (Value⊕(Unit))):(Int)→M (Value⊕(Unit)):=fun s=>match s with
 |Xx16=>do
  let Xx23←ldI .i64 ((Cc19).add 1)
  M.ite (decide (Xx16<Xx23)) (do
   let Xx27←ldI .i64 ((Cc19).add 0)
   let Xx28←M.ite (decide (Xx16≥Xx27)) (do
    let Xx29←ZQ Cc17 4 (⟨#[41]⟩:ByteArray)
    M.pure Xx29
    ) (do
    M.pure false
    )
   M.ite Xx28 (do
    JY Cc17 Cc19
    ) (do
    M.ite (decide (Xx16>0)) (do
     thr (Kc Cc17 (⟨#[44]⟩:ByteArray)) fun Xx36=>do
      JZ self1 Cc18 Xx16
     ) (do
     JZ self1 Cc18 Xx16
     )
    )
   ) (do
   JY Cc17 Cc19
   )
def Jo (x0:Option Addr) (x1:Array Value) (x2:Value):M (Value⊕(Unit)):=do
 let Xx2←mkB ZI x1
 M.loop (Uq x0 x2 Xx2) 0
theorem Xm (x0:Option Addr) (x1:Array Value) (x2:Value):J3 Go.Proofs.Tryz.prog 146 #[.pointer x0,.agg x1,x2] (fun(r:Unit)=>.tuple #[]) (Jo x0 x1 x2):=by
 refine Zj [(0,.pointer x0),(1,.agg x1),(2,x2)] Go.Proofs.Tryz.func146 rfl rfl (Nat.le_of_ble_eq_true rfl) (Z8 ⟨rfl,rfl,rfl,trivial⟩) (fun w0 w Q R X a hret hthr hE hR H=>?_)
 unfold Jo at H
 refine KR (fun K hK_1=>?_)
 refine KC ?_
 obtain⟨Xx2,qXx2,H⟩:=H
 refine JM (v:=.pointer (some Xx2)) rfl rfl hE rfl hR (KFj hE rfl qXx2) (fun a w hE hR hh=>?_)
 replace H:=M.at hh H;clear hh
 refine KN ?_
 refine hK_1 _ _ ?_
 refine Kz (fun a w=>Env (⟨42,[]⟩:Frm) a [(0,.pointer x0),(4,.pointer (some Xx2))]∧Rest w0 w∧(JY x0 Xx2).wp w.heap Q) ?_ ?_
 ·rintro a w ⟨hE,hR,H⟩
  unfold JY at H
  refine Kz (fun a w=>Env (⟨42,[]⟩:Frm) a [(0,.pointer x0)]∧Rest w0 w∧(UC x0).wp w.heap Q) ?_ ?_
  ·rintro a w ⟨hE,hR,H⟩
   unfold UC at H
   refine KC ?_
   refine KB (v:=.pointer x0) rfl rfl hE rfl (KF hE rfl) (fun a hE=>?_)
   refine KZ hE hR Kg rfl (Kl x0 (⟨#[41]⟩:ByteArray)) H (fun _ _ hR HQ=>hthr _ _ hR HQ) (fun Xx6 a w ea hR H=>?_)
   have hE:=Env.put_some hE rfl ea;clear ea
   refine KN ?_
   exact hret _ _ _ () _ hE hR (Kn hE rfl RV.nil) rfl H
  ·skip
   refine KR (fun K hK_7=>?_)
   refine KC ?_
   refine KB (v:=.pointer (some ((Xx2).add 1))) rfl rfl hE rfl (KD hE rfl GK) (fun a hE=>?_)
   obtain⟨Xx8,qXx8,H⟩:=H
   refine KB (v:=.int .i64 Xx8) rfl rfl hE rfl (KS hE rfl sc3 qXx8) (fun a hE=>?_)
   refine KB (v:=.bool (Xx8==32)) rfl rfl hE rfl (Kk hE rfl rfl Ki W9) (fun a hE=>?_)
   refine KB (v:=.bool (Xx8==32)) rfl rfl hE rfl (KF hE rfl) (fun a hE=>?_)
   refine KAz (n:=(⟨42,[]⟩:Frm)) (w0:=w0) 3 (fun Xx9:Bool=>[(0,.pointer x0),(34,.bool Xx9)]) (M.unbind H) (fun Kr hKr H=>?_) ?_
   ·rcases Uj (Xx8==32)with hb|hb
    ·replace H:=M.ite_t hb H
     have hE:=hE.reb 31 (Xx8==32) true hb rfl
     refine t_on rfl hE rfl rfl rfl ?_
     refine KB (v:=.pointer x0) rfl rfl hE rfl (KF hE rfl) (fun a hE=>?_)
     refine t_on rfl hE rfl rfl rfl ?_
     refine Zd hE hR ZP rfl (Za x0 4 (⟨#[44]⟩:ByteArray)) (M.unbind H) (fun Xx10 a w ea hR H=>?_)
     have hE:=Env.put_some hE rfl ea;clear ea
     refine KB rfl rfl hE rfl (Jj hE rfl rfl) (fun a hE=>?_)
     refine KN ?_
     exact hKr _ _ _ (hE.cut (.cons rfl (.cons rfl Subs.nil))) hR H
    ·replace H:=M.ite_f hb H
     have hE:=hE.reb 31 (Xx8==32) false hb rfl
     refine Uw rfl hE rfl rfl rfl (fun a ea=>?_)
     have hE:=Env.put_some hE rfl ea;clear ea
     refine Uw rfl hE rfl rfl rfl (fun a ea=>?_)
     have hE:=Env.put_some hE rfl ea;clear ea
     refine KB rfl rfl hE rfl (Z3 hE rfl rfl) (fun a hE=>?_)
     refine KN ?_
     exact hKr _ _ _ (hE.cut (.cons rfl (.cons rfl Subs.nil))) hR H
   ·intro Xx9 a w hE hR H
    refine KN ?_
    refine hK_7 _ _ ?_
    refine ZA Xx9 hE rfl (fun hb=>?_) (fun hb=>?_)
    ·replace H:=M.ite_t hb H
     refine KR (fun K hK_11=>?_)
     refine KC ?_
     refine KB (v:=.pointer x0) rfl rfl hE rfl (KF hE rfl) (fun a hE=>?_)
     refine KZ hE hR Kg rfl (Kl x0 (⟨#[44]⟩:ByteArray)) H (fun _ _ hR HQ=>hthr _ _ hR HQ) (fun Xx12 a w ea hR H=>?_)
     have hE:=Env.put_some hE rfl ea;clear ea
     refine KN ?_
     refine hK_11 _ _ ?_
     refine KC ?_
     refine KB (v:=.pointer x0) rfl rfl hE rfl (KF hE rfl) (fun a hE=>?_)
     refine Zd hE hR ZX rfl (Zg x0) (M.unbind H) (fun Xx13 a w ea hR H=>?_)
     have hE:=Env.put_some hE rfl ea;clear ea
     refine KZ hE hR JB rfl (Ji Xx13 3) H (fun _ _ hR HQ=>hthr _ _ hR HQ) (fun Xx14 a w ea hR H=>?_)
     have hE:=Env.put_some hE rfl ea;clear ea
     refine KN ?_
     exact⟨hE.cut (.cons rfl Subs.nil),hR,H⟩
    ·replace H:=M.ite_f hb H
     refine Zq ?_
     exact⟨hE.cut (.cons rfl Subs.nil),hR,H⟩
 ·skip
  refine KR (fun K hK_15=>?_)
  refine KC ?_
  refine KB (v:=.int .i64 0) rfl rfl hE rfl (KQ hE rfl) (fun a hE=>?_)
  refine KN ?_
  refine hK_15 _ _ ?_
  refine J6 ?_
  refine zq (fun(s:Int)=>(⟨42,[]⟩:Frm)) (fun(s:Int)=>[(0,.pointer x0),(2,x2),(4,.pointer (some Xx2)),(6,.int .i64 s)]) H (hE.cut (.cons rfl (.cons rfl (.cons rfl (.cons rfl Subs.nil))))) hR (fun Y self1 hY_20 Xx16 a w hE hR H=>?_)
  replace hE:Env (⟨42,[]⟩:Frm) a [(0,.pointer x0),(2,x2),(4,.pointer (some Xx2)),(6,.int .i64 Xx16)]:=hE
  replace H:(Uq x0 x2 Xx2 self1 Xx16).wp w.heap Q:=H
  unfold Uq at H
  refine KR (fun K hK_21=>?_)
  refine KR (fun K hK_22=>?_)
  refine KC ?_
  refine KB (v:=.int .i64 Xx16) rfl rfl hE rfl (KF hE rfl) (fun a hE=>?_)
  refine KB (v:=.pointer (some ((Xx2).add 1))) rfl rfl hE rfl (KD hE rfl GK) (fun a hE=>?_)
  obtain⟨Xx23,qXx23,H⟩:=H
  refine KB (v:=.int .i64 Xx23) rfl rfl hE rfl (KS hE rfl sc3 qXx23) (fun a hE=>?_)
  refine KB (v:=.bool (decide (Xx16<Xx23))) rfl rfl hE rfl (Kk hE rfl rfl Ki NU) (fun a hE=>?_)
  refine KN ?_
  refine hK_22 _ _ ?_
  refine ZA (decide (Xx16<Xx23)) hE rfl (fun hb=>?_) (fun hb=>?_)
  ·replace H:=M.ite_t hb H
   refine Zq ?_
   refine hK_21 _ _ ?_
   refine KR (fun K hK_24=>?_)
   refine J6 ?_
   refine KR (fun K hK_25=>?_)
   refine KR (fun K hK_26=>?_)
   refine KC ?_
   refine KB (v:=.int .i64 Xx16) rfl rfl hE rfl (KF hE rfl) (fun a hE=>?_)
   refine KB (v:=.pointer (some ((Xx2).add 0))) rfl rfl hE rfl (KD hE rfl NA) (fun a hE=>?_)
   obtain⟨Xx27,qXx27,H⟩:=H
   refine KB (v:=.int .i64 Xx27) rfl rfl hE rfl (KS hE rfl sc3 qXx27) (fun a hE=>?_)
   refine KB (v:=.bool (decide (Xx16≥Xx27))) rfl rfl hE rfl (Kk hE rfl rfl Ki KBm) (fun a hE=>?_)
   refine KB (v:=.bool (decide (Xx16≥Xx27))) rfl rfl hE rfl (KF hE rfl) (fun a hE=>?_)
   refine KAz (n:=(⟨42,[]⟩:Frm)) (w0:=w0) 3 (fun Xx28:Bool=>[(0,.pointer x0),(2,x2),(4,.pointer (some Xx2)),(6,.int .i64 Xx16),(20,.bool Xx28)]) (M.unbind H) (fun Kr hKr H=>?_) ?_
   ·rcases Uj (decide (Xx16≥Xx27))with hb|hb
    ·replace H:=M.ite_t hb H
     have hE:=hE.reb 17 (decide (Xx16≥Xx27)) true hb rfl
     refine t_on rfl hE rfl rfl rfl ?_
     refine KB (v:=.pointer x0) rfl rfl hE rfl (KF hE rfl) (fun a hE=>?_)
     refine t_on rfl hE rfl rfl rfl ?_
     refine Zd hE hR ZP rfl (Za x0 4 (⟨#[41]⟩:ByteArray)) (M.unbind H) (fun Xx29 a w ea hR H=>?_)
     have hE:=Env.put_some hE rfl ea;clear ea
     refine KB rfl rfl hE rfl (Jj hE rfl rfl) (fun a hE=>?_)
     refine KN ?_
     exact hKr _ _ _ (hE.cut (.cons rfl (.cons rfl (.cons rfl (.cons rfl (.cons rfl Subs.nil)))))) hR H
    ·replace H:=M.ite_f hb H
     have hE:=hE.reb 17 (decide (Xx16≥Xx27)) false hb rfl
     refine Uw rfl hE rfl rfl rfl (fun a ea=>?_)
     have hE:=Env.put_some hE rfl ea;clear ea
     refine Uw rfl hE rfl rfl rfl (fun a ea=>?_)
     have hE:=Env.put_some hE rfl ea;clear ea
     refine KB rfl rfl hE rfl (Z3 hE rfl rfl) (fun a hE=>?_)
     refine KN ?_
     exact hKr _ _ _ (hE.cut (.cons rfl (.cons rfl (.cons rfl (.cons rfl (.cons rfl Subs.nil)))))) hR H
   ·intro Xx28 a w hE hR H
    refine KN ?_
    refine hK_26 _ _ ?_
    refine ZA Xx28 hE rfl (fun hb=>?_) (fun hb=>?_)
    ·replace H:=M.ite_t hb H
     refine qh ?_
     refine Xu.ne rfl ?_
     refine Xu.same ?_
     exact⟨hE.cut (.cons rfl (.cons rfl Subs.nil)),hR,H⟩
    ·replace H:=M.ite_f hb H
     refine Zq ?_
     refine hK_25 _ _ ?_
     refine Kz (fun a w=>Env (⟨42,[]⟩:Frm) a [(0,.pointer x0),(2,x2),(4,.pointer (some Xx2)),(6,.int .i64 Xx16)]∧Rest w0 w∧(JZ self1 x2 Xx16).wp w.heap Q) ?_ ?_
     ·rintro a w ⟨hE,hR,H⟩
      unfold JZ at H
      refine KC ?_
      refine KB (v:=x2) rfl rfl hE rfl (KF hE rfl) (fun a hE=>?_)
      refine KB (v:=.int .i64 Xx16) rfl rfl hE rfl (KF hE rfl) (fun a hE=>?_)
      refine KMU hE hR rfl rfl H (fun _ _ hR HQ=>Xu.ne rfl (Xu.ne rfl (hthr _ _ hR HQ))) (fun Xx34 a w ea hR H=>?_)
      have hE:=Env.put_some hE rfl ea;clear ea
      refine KN ?_
      refine hK_24 _ _ ?_
      refine KC ?_
      refine KB (v:=.int .i64 Xx16) rfl rfl hE rfl (KF hE rfl) (fun a hE=>?_)
      refine KB (v:=.int .i64 (IntKind.wrap .i64 (Xx16+1))) rfl rfl hE rfl (Kk hE rfl rfl Ki Vp) (fun a hE=>?_)
      refine KB (v:=.int .i64 (IntKind.wrap .i64 (Xx16+1))) rfl rfl hE rfl (KQ hE rfl) (fun a hE=>?_)
      refine KN ?_
      exact hY_20 (IntKind.wrap .i64 (Xx16+1)) _ _ (hE.cut (.cons rfl (.cons rfl (.cons rfl (.cons rfl Subs.nil))))) hR H
     ·skip
      refine KR (fun K hK_35=>?_)
      refine KC ?_
      refine KB (v:=.int .i64 Xx16) rfl rfl hE rfl (KF hE rfl) (fun a hE=>?_)
      refine KB (v:=.bool (decide (Xx16>0))) rfl rfl hE rfl (Kk hE rfl rfl Ki qv) (fun a hE=>?_)
      refine KN ?_
      refine hK_35 _ _ ?_
      refine ZA (decide (Xx16>0)) hE rfl (fun hb=>?_) (fun hb=>?_)
      ·replace H:=M.ite_t hb H
       refine KC ?_
       refine KB (v:=.pointer x0) rfl rfl hE rfl (KF hE rfl) (fun a hE=>?_)
       refine KZ hE hR Kg rfl (Kl x0 (⟨#[44]⟩:ByteArray)) H (fun _ _ hR HQ=>Xu.ne rfl (Xu.ne rfl (hthr _ _ hR HQ))) (fun Xx36 a w ea hR H=>?_)
       have hE:=Env.put_some hE rfl ea;clear ea
       refine KN ?_
       exact⟨hE.cut (.cons rfl (.cons rfl (.cons rfl (.cons rfl Subs.nil)))),hR,H⟩
      ·replace H:=M.ite_f hb H
       refine Zq ?_
       exact⟨hE.cut (.cons rfl (.cons rfl (.cons rfl (.cons rfl Subs.nil)))),hR,H⟩
  ·replace H:=M.ite_f hb H
   refine qh ?_
   refine Xu.same ?_
   exact⟨hE.cut (.cons rfl (.cons rfl Subs.nil)),hR,H⟩
end Gx
