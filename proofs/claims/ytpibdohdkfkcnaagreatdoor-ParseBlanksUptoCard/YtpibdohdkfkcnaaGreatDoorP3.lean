/- Printed by program: Go functions as Lean programs, each tied to its code. No condition. -/
import Derived.Test.YtpibdohdkfkcnaaGreatDoorP0
import Derived.Test.YtpibdohdkfkcnaaGreatDoorP1
import Derived.Test.YtpibdohdkfkcnaaGreatDoorP2
import Derived.Test.YtpibdohdkfkcnaaGreatDoorProg
import Derived.KernelRfl
import Derived.Lib.AtoiErrMem
import Derived.Shelf.Small.Strs
import Derived.Shelf.Strconv.Itoa3
import Derived.Shelf.Strconv.ParseInt10All
import Derived.Shelf.Strings.Builder1
import Derived.Shelf.Strings.Count
import Derived.Shelf.Strings.Search1
import Derived.Shelf.Strings.Search2
import Derived.Shelf.Strings.SlTrimAscii
set_option linter.unusedVariables false
set_option linter.unusedSimpArgs false
set_option maxRecDepth 100000
open Go.Proofs
namespace Gx
open Go
abbrev KEj:Nat:=172
abbrev KBv:Nat:=173
abbrev KKZ:Nat:=171
abbrev KG5:Nat:=209
abbrev KEk:Nat:=210
abbrev Xv:Nat:=211
abbrev Nn:Nat:=262
abbrev NN:Nat:=271
abbrev NO:Nat:=224
abbrev Xw:Nat:=140
abbrev KMF:Nat:=22
abbrev KKa:Nat:=179
abbrev KH2:Nat:=177
abbrev KKb:Nat:=54
abbrev KKc:Nat:=212
abbrev KQW:Nat:=126
abbrev Yi:Nat:=92
abbrev KA1:Nat:=46
abbrev KDA:Nat:=93
abbrev KMG:Nat:=178
abbrev KA2:Nat:=253
abbrev KJH:Nat:=258
abbrev KN3:Nat:=260
abbrev KJI:Nat:=31
abbrev KG6:Nat:=64
abbrev KKd:Nat:=40
abbrev KG7:Nat:=160
abbrev KH3:Nat:=162
abbrev KGB:Nat:=116
abbrev VE:Nat:=105
abbrev KKe:Nat:=196
abbrev KJJ:Nat:=143
abbrev KKf:Nat:=197
abbrev KGC:Nat:=198
abbrev No:Nat:=63
abbrev KBw:Nat:=106
abbrev KEl:Nat:=107
abbrev UD:Nat:=115
abbrev Zc:Nat:=66
abbrev KBx:Nat:=148
abbrev UE:Nat:=144
abbrev KDB:Nat:=149
abbrev KA3:Nat:=114
abbrev KBy:Nat:=150
abbrev KAi:Nat:=199
abbrev Na:Nat:=146
abbrev KBz:Nat:=108
abbrev GM:Nat:=147
abbrev Nb:Nat:=65
abbrev XA:Nat:=67
abbrev ZU:Nat:=73
abbrev KG8:Nat:=145
abbrev KKg:Nat:=78
abbrev KB0:Nat:=30
abbrev YC:Nat:=28
abbrev KA4:Nat:=151
abbrev KB1:Nat:=214
abbrev KDC:Nat:=111
abbrev KDD:Nat:=200
abbrev KA5:Nat:=229
abbrev KDE:Nat:=186
abbrev KB2:Nat:=33
abbrev Ux:Nat:=74
abbrev KEm:Nat:=57
abbrev KDF:Nat:=55
abbrev KB3:Nat:=97
abbrev KB4:Nat:=112
abbrev NP:Nat:=215
abbrev qt:Nat:=129
abbrev qu:Nat:=181
abbrev JW:Nat:=187
abbrev qv:Nat:=185
abbrev Nq:Nat:=183
abbrev zS:Nat:=184
abbrev Zj:Nat:=128
abbrev KDG:Nat:=36
abbrev KAj:Nat:=69
abbrev KEn:Nat:=58
abbrev KDH:Nat:=34
abbrev VF:Nat:=109
abbrev KB5:Nat:=182
abbrev KEo:Nat:=230
abbrev KA6:Nat:=101
abbrev YD:Nat:=70
abbrev KEp:Nat:=117
abbrev KB6:Nat:=110
abbrev WW:Nat:=71
abbrev Vg:Nat:=113
abbrev KDI:Nat:=118
abbrev KB7:Nat:=23
abbrev KEq:Nat:=14
abbrev KB8:Nat:=127
abbrev KB9:Nat:=47
abbrev KA7:Nat:=94
abbrev KDJ:Nat:=56
abbrev KEr:Nat:=48
abbrev KA8:Nat:=96
abbrev KDK:Nat:=95
abbrev KCA:Nat:=39
abbrev Vh:Nat:=77
abbrev KCB:Nat:=29
abbrev WX:Nat:=32
abbrev KDL:Nat:=41
abbrev Vx:Nat:=103
abbrev KDM:Nat:=168
abbrev KAL:Nat:=142
abbrev KDN:Nat:=68
abbrev KCC:Nat:=166
abbrev KCD:Nat:=79
abbrev KDO:Nat:=122
abbrev WY:Nat:=62
abbrev KA9:Nat:=169
abbrev KBA:Nat:=167
abbrev JG:Nat:=175
abbrev WP:Nat:=165
abbrev Xm:Nat:=257
abbrev W6:Nat:=205
abbrev GS:Nat:=261
abbrev GT:Nat:=195
abbrev KDP:Nat:=259
abbrev KCE:Nat:=267
abbrev KAM:Nat:=268
abbrev KBB:Nat:=266
abbrev KAk:Nat:=265
abbrev KEs:Nat:=263
abbrev KEt:Nat:=174
abbrev KG9:Nat:=207
abbrev KHA:Nat:=208
abbrev KCF:Nat:=100
abbrev KHB:Nat:=123
abbrev KH4:Nat:=99
abbrev KEu:Nat:=206
abbrev KDQ:Nat:=170
abbrev KKh:Nat:=152
abbrev KJK:Nat:=153
abbrev KAe:Nat:=124
abbrev KMH:Nat:=51
abbrev KKi:Nat:=53
abbrev KJL:Nat:=180
abbrev KMI:Nat:=52
abbrev KJM:Nat:=241
abbrev KMJ:Nat:=201
abbrev KJN:Nat:=221
abbrev Nr:Nat:=213
abbrev KAN:Nat:=245
abbrev KAO:Nat:=254
abbrev JO:Nat:=228
abbrev KCG:Nat:=240
abbrev Vi:Nat:=246
abbrev UF:Nat:=244
abbrev GN:Nat:=242
abbrev KDR:Nat:=243
abbrev Js:Nat:=227
abbrev zF:Nat:=23
abbrev VZ:Nat:=123
abbrev KU:Nat:=94
abbrev KL:Nat:=29
abbrev KB:Nat:=54
abbrev KH5:Nat:=4
abbrev WS:Nat:=3
abbrev KO8:Nat:=2
abbrev Kt:Nat:=265
abbrev KC2:Nat:=70
abbrev NQ:Nat:=68
abbrev Z9:Nat:=98
abbrev VG:Nat:=268
abbrev KBC:Nat:=139
abbrev Wz:Nat:=178
abbrev ZA:Nat:=176
abbrev XB:Nat:=137
abbrev ZV:Nat:=161
abbrev Yj:Nat:=198
abbrev Gm:Nat:=43
abbrev Vy:Nat:=22
abbrev KDS:Nat:=273
abbrev ZW:Nat:=9
abbrev Ko:Nat:=5
abbrev qH:Nat:=233
abbrev JK:Nat:=229
theorem mo:Tryz.prog.follows .mixedOrders=true:=by kernel_rfl
theorem un22:Tryz.prog.underlying 22=some (.slice 29):=by kernel_rfl
theorem un9:Tryz.prog.underlying 9=some (.string):=by kernel_rfl
theorem KYr:((Tryz.prog.info? 137).bind (·.zero))=some (.agg (#[.int .i64 0,.int .i64 0]:Ea)):=by kernel_rfl
theorem zr22:((Tryz.prog.info? 22).bind (·.zero))=some (.slice none 0 0):=by kernel_rfl
theorem KYs:((Tryz.prog.info? 229).bind (·.zero))=some (.agg (#[.int .i64 0]:Ea)):=by kernel_rfl
theorem zr23:((Tryz.prog.info? 23).bind (·.zero))=some (.int .i64 0):=by kernel_rfl
theorem zr29:((Tryz.prog.info? 29).bind (·.zero))=some (.agg (#[.int .i64 0,.string ByteArray.empty,.int .i64 0,.int .i64 0]:Ea)):=by kernel_rfl
theorem zr3:((Tryz.prog.info? 3).bind (·.zero))=some (.int .i64 0):=by kernel_rfl
theorem zr54:((Tryz.prog.info? 54).bind (·.zero))=some (.agg (#[.int .i64 0,.int .i64 0,.string ByteArray.empty,.slice none 0 0]:Ea)):=by kernel_rfl
theorem zr70:((Tryz.prog.info? 70).bind (·.zero))=some (.agg (#[.string ByteArray.empty,.int .i64 0]:Ea)):=by kernel_rfl
theorem ag29:agB Tryz.prog 29 4=true:=by kernel_rfl
theorem ag54:agB Tryz.prog 54 4=true:=by kernel_rfl
theorem ap22:apB Tryz.prog 22 29 4 40 (#[.int .i64 0,.string ByteArray.empty,.int .i64 0,.int .i64 0]:Ea):=⟨un22,KF8 (by kernel_rfl)⟩
theorem bd54:∀w,(Instr.build 54 #[]).run Tryz.prog w=.ok (.agg (#[.int .i64 0,.int .i64 0,.string ByteArray.empty,.slice none 0 0]:Ea)) w:=λw=>by kernel_rfl
theorem KEv:Callee? Tryz.prog 172:=KC Tryz.func172 (by kernel_rfl) rfl
theorem KCH:Callee? Tryz.prog 173:=KC Tryz.func173 (by kernel_rfl) rfl
theorem KKj:Callee? Tryz.prog 171:=KC Tryz.func171 (by kernel_rfl) rfl
theorem KHC:Callee? Tryz.prog 209:=KC Tryz.func209 (by kernel_rfl) rfl
theorem KEw:Callee? Tryz.prog 210:=KC Tryz.func210 (by kernel_rfl) rfl
theorem Xx:Callee? Tryz.prog 211:=KC Tryz.func211 (by kernel_rfl) rfl
theorem Ns:Callee? Tryz.prog 262:=KC Tryz.func262 (by kernel_rfl) rfl
theorem NR:Callee? Tryz.prog 271:=KC Tryz.func271 (by kernel_rfl) rfl
theorem NS:Callee? Tryz.prog 224:=KC Tryz.func224 (by kernel_rfl) rfl
theorem Xy:Callee? Tryz.prog 140:=KC Tryz.func140 (by kernel_rfl) rfl
theorem KMK:Callee? Tryz.prog 22:=KC Tryz.func22 (by kernel_rfl) rfl
theorem KQX:Callee? Tryz.prog 13:=KC Tryz.func13 (by kernel_rfl) rfl
theorem KKk:Callee? Tryz.prog 179:=KC Tryz.func179 (by kernel_rfl) rfl
theorem KH6:Callee? Tryz.prog 177:=KC Tryz.func177 (by kernel_rfl) rfl
theorem KKl:Callee? Tryz.prog 54:=KC Tryz.func54 (by kernel_rfl) rfl
theorem KKm:Callee? Tryz.prog 212:=KC Tryz.func212 (by kernel_rfl) rfl
theorem KQY:Callee? Tryz.prog 126:=KC Tryz.func126 (by kernel_rfl) rfl
theorem KEx:Callee? Tryz.prog 45:=KC Tryz.func45 (by kernel_rfl) rfl
theorem KCI:Callee? Tryz.prog 92:=KC Tryz.func92 (by kernel_rfl) rfl
theorem Gt:Callee? Tryz.prog 46:=KC Tryz.func46 (by kernel_rfl) rfl
theorem KDT:Callee? Tryz.prog 93:=KC Tryz.func93 (by kernel_rfl) rfl
theorem KML:Callee? Tryz.prog 178:=KC Tryz.func178 (by kernel_rfl) rfl
theorem KMM:Callee? Tryz.prog 253:=KC Tryz.func253 (by kernel_rfl) rfl
theorem KJO:Callee? Tryz.prog 258:=KC Tryz.func258 (by kernel_rfl) rfl
theorem KN4:Callee? Tryz.prog 260:=KC Tryz.func260 (by kernel_rfl) rfl
theorem KJP:Callee? Tryz.prog 31:=KC Tryz.func31 (by kernel_rfl) rfl
theorem KHD:Callee? Tryz.prog 64:=KC Tryz.func64 (by kernel_rfl) rfl
theorem KKn:Callee? Tryz.prog 40:=KC Tryz.func40 (by kernel_rfl) rfl
theorem KHE:Callee? Tryz.prog 160:=KC Tryz.func160 (by kernel_rfl) rfl
theorem KH7:Callee? Tryz.prog 162:=KC Tryz.func162 (by kernel_rfl) rfl
theorem KGD:Callee? Tryz.prog 116:=KC Tryz.func116 (by kernel_rfl) rfl
theorem UU:Callee? Tryz.prog 105:=KC Tryz.func105 (by kernel_rfl) rfl
theorem KKo:Callee? Tryz.prog 196:=KC Tryz.func196 (by kernel_rfl) rfl
theorem KJQ:Callee? Tryz.prog 143:=KC Tryz.func143 (by kernel_rfl) rfl
theorem KKp:Callee? Tryz.prog 197:=KC Tryz.func197 (by kernel_rfl) rfl
theorem KGE:Callee? Tryz.prog 198:=KC Tryz.func198 (by kernel_rfl) rfl
theorem KKq:Callee? Tryz.prog 63:=KC Tryz.func63 (by kernel_rfl) rfl
theorem Nc:Callee? Tryz.prog 106:=KC Tryz.func106 (by kernel_rfl) rfl
theorem KEy:Callee? Tryz.prog 107:=KC Tryz.func107 (by kernel_rfl) rfl
theorem KCJ:Callee? Tryz.prog 115:=KC Tryz.func115 (by kernel_rfl) rfl
theorem Zd:Callee? Tryz.prog 66:=KC Tryz.func66 (by kernel_rfl) rfl
theorem KCK:Callee? Tryz.prog 148:=KC Tryz.func148 (by kernel_rfl) rfl
theorem UG:Callee? Tryz.prog 144:=KC Tryz.func144 (by kernel_rfl) rfl
theorem KDU:Callee? Tryz.prog 149:=KC Tryz.func149 (by kernel_rfl) rfl
theorem KBD:Callee? Tryz.prog 114:=KC Tryz.func114 (by kernel_rfl) rfl
theorem KCL:Callee? Tryz.prog 150:=KC Tryz.func150 (by kernel_rfl) rfl
theorem KAl:Callee? Tryz.prog 199:=KC Tryz.func199 (by kernel_rfl) rfl
theorem Nd:Callee? Tryz.prog 146:=KC Tryz.func146 (by kernel_rfl) rfl
theorem KCM:Callee? Tryz.prog 108:=KC Tryz.func108 (by kernel_rfl) rfl
theorem KAm:Callee? Tryz.prog 147:=KC Tryz.func147 (by kernel_rfl) rfl
theorem Ng:Callee? Tryz.prog 65:=KC Tryz.func65 (by kernel_rfl) rfl
theorem XD:Callee? Tryz.prog 67:=KC Tryz.func67 (by kernel_rfl) rfl
theorem VH:Callee? Tryz.prog 73:=KC Tryz.func73 (by kernel_rfl) rfl
theorem KHF:Callee? Tryz.prog 145:=KC Tryz.func145 (by kernel_rfl) rfl
theorem KKr:Callee? Tryz.prog 78:=KC Tryz.func78 (by kernel_rfl) rfl
theorem KCN:Callee? Tryz.prog 30:=KC Tryz.func30 (by kernel_rfl) rfl
theorem zG:Callee? Tryz.prog 28:=KC Tryz.func28 (by kernel_rfl) rfl
theorem KBE:Callee? Tryz.prog 151:=KC Tryz.func151 (by kernel_rfl) rfl
theorem KCO:Callee? Tryz.prog 214:=KC Tryz.func214 (by kernel_rfl) rfl
theorem KDV:Callee? Tryz.prog 111:=KC Tryz.func111 (by kernel_rfl) rfl
theorem KDW:Callee? Tryz.prog 200:=KC Tryz.func200 (by kernel_rfl) rfl
theorem KBF:Callee? Tryz.prog 229:=KC Tryz.func229 (by kernel_rfl) rfl
theorem KDX:Callee? Tryz.prog 186:=KC Tryz.func186 (by kernel_rfl) rfl
theorem KCP:Callee? Tryz.prog 33:=KC Tryz.func33 (by kernel_rfl) rfl
theorem GO:Callee? Tryz.prog 74:=KC Tryz.func74 (by kernel_rfl) rfl
theorem KEz:Callee? Tryz.prog 57:=KC Tryz.func57 (by kernel_rfl) rfl
theorem KDY:Callee? Tryz.prog 55:=KC Tryz.func55 (by kernel_rfl) rfl
theorem KCQ:Callee? Tryz.prog 97:=KC Tryz.func97 (by kernel_rfl) rfl
theorem KCR:Callee? Tryz.prog 112:=KC Tryz.func112 (by kernel_rfl) rfl
theorem NT:Callee? Tryz.prog 215:=KC Tryz.func215 (by kernel_rfl) rfl
theorem qw:Callee? Tryz.prog 129:=KC Tryz.func129 (by kernel_rfl) rfl
theorem qy:Callee? Tryz.prog 181:=KC Tryz.func181 (by kernel_rfl) rfl
theorem q7:Callee? Tryz.prog 187:=KC Tryz.func187 (by kernel_rfl) rfl
theorem q8:Callee? Tryz.prog 185:=KC Tryz.func185 (by kernel_rfl) rfl
theorem Nt:Callee? Tryz.prog 183:=KC Tryz.func183 (by kernel_rfl) rfl
theorem zT:Callee? Tryz.prog 184:=KC Tryz.func184 (by kernel_rfl) rfl
theorem YN:Callee? Tryz.prog 128:=KC Tryz.func128 (by kernel_rfl) rfl
theorem KDZ:Callee? Tryz.prog 36:=KC Tryz.func36 (by kernel_rfl) rfl
theorem KAn:Callee? Tryz.prog 69:=KC Tryz.func69 (by kernel_rfl) rfl
theorem KE0:Callee? Tryz.prog 58:=KC Tryz.func58 (by kernel_rfl) rfl
theorem KDa:Callee? Tryz.prog 34:=KC Tryz.func34 (by kernel_rfl) rfl
theorem KE1:Callee? Tryz.prog 109:=KC Tryz.func109 (by kernel_rfl) rfl
theorem KCS:Callee? Tryz.prog 182:=KC Tryz.func182 (by kernel_rfl) rfl
theorem KE2:Callee? Tryz.prog 230:=KC Tryz.func230 (by kernel_rfl) rfl
theorem KBG:Callee? Tryz.prog 101:=KC Tryz.func101 (by kernel_rfl) rfl
theorem zH:Callee? Tryz.prog 70:=KC Tryz.func70 (by kernel_rfl) rfl
theorem KE3:Callee? Tryz.prog 117:=KC Tryz.func117 (by kernel_rfl) rfl
theorem KCT:Callee? Tryz.prog 110:=KC Tryz.func110 (by kernel_rfl) rfl
theorem qI:Callee? Tryz.prog 71:=KC Tryz.func71 (by kernel_rfl) rfl
theorem KCU:Callee? Tryz.prog 113:=KC Tryz.func113 (by kernel_rfl) rfl
theorem KDb:Callee? Tryz.prog 118:=KC Tryz.func118 (by kernel_rfl) rfl
theorem KCV:Callee? Tryz.prog 23:=KC Tryz.func23 (by kernel_rfl) rfl
theorem KE4:Callee? Tryz.prog 14:=KC Tryz.func14 (by kernel_rfl) rfl
theorem KCW:Callee? Tryz.prog 127:=KC Tryz.func127 (by kernel_rfl) rfl
theorem KCX:Callee? Tryz.prog 47:=KC Tryz.func47 (by kernel_rfl) rfl
theorem KBH:Callee? Tryz.prog 94:=KC Tryz.func94 (by kernel_rfl) rfl
theorem KDc:Callee? Tryz.prog 56:=KC Tryz.func56 (by kernel_rfl) rfl
theorem KE5:Callee? Tryz.prog 48:=KC Tryz.func48 (by kernel_rfl) rfl
theorem KBI:Callee? Tryz.prog 96:=KC Tryz.func96 (by kernel_rfl) rfl
theorem KDd:Callee? Tryz.prog 95:=KC Tryz.func95 (by kernel_rfl) rfl
theorem KCY:Callee? Tryz.prog 39:=KC Tryz.func39 (by kernel_rfl) rfl
theorem Nh:Callee? Tryz.prog 77:=KC Tryz.func77 (by kernel_rfl) rfl
theorem KCZ:Callee? Tryz.prog 29:=KC Tryz.func29 (by kernel_rfl) rfl
theorem qJ:Callee? Tryz.prog 32:=KC Tryz.func32 (by kernel_rfl) rfl
theorem KDe:Callee? Tryz.prog 41:=KC Tryz.func41 (by kernel_rfl) rfl
theorem zg:Callee? Tryz.prog 103:=KC Tryz.func103 (by kernel_rfl) rfl
theorem KDf:Callee? Tryz.prog 168:=KC Tryz.func168 (by kernel_rfl) rfl
theorem KAP:Callee? Tryz.prog 142:=KC Tryz.func142 (by kernel_rfl) rfl
theorem KDg:Callee? Tryz.prog 68:=KC Tryz.func68 (by kernel_rfl) rfl
theorem KCa:Callee? Tryz.prog 166:=KC Tryz.func166 (by kernel_rfl) rfl
theorem KCb:Callee? Tryz.prog 79:=KC Tryz.func79 (by kernel_rfl) rfl
theorem KDh:Callee? Tryz.prog 122:=KC Tryz.func122 (by kernel_rfl) rfl
theorem qK:Callee? Tryz.prog 62:=KC Tryz.func62 (by kernel_rfl) rfl
theorem KBJ:Callee? Tryz.prog 169:=KC Tryz.func169 (by kernel_rfl) rfl
theorem KBK:Callee? Tryz.prog 167:=KC Tryz.func167 (by kernel_rfl) rfl
theorem JH:Callee? Tryz.prog 175:=KC Tryz.func175 (by kernel_rfl) rfl
theorem WQ:Callee? Tryz.prog 165:=KC Tryz.func165 (by kernel_rfl) rfl
theorem Xn:Callee? Tryz.prog 257:=KC Tryz.func257 (by kernel_rfl) rfl
theorem W7:Callee? Tryz.prog 205:=KC Tryz.func205 (by kernel_rfl) rfl
theorem GU:Callee? Tryz.prog 261:=KC Tryz.func261 (by kernel_rfl) rfl
theorem GV:Callee? Tryz.prog 195:=KC Tryz.func195 (by kernel_rfl) rfl
theorem KDi:Callee? Tryz.prog 259:=KC Tryz.func259 (by kernel_rfl) rfl
theorem KCc:Callee? Tryz.prog 267:=KC Tryz.func267 (by kernel_rfl) rfl
theorem KAQ:Callee? Tryz.prog 268:=KC Tryz.func268 (by kernel_rfl) rfl
theorem KBL:Callee? Tryz.prog 266:=KC Tryz.func266 (by kernel_rfl) rfl
theorem KAo:Callee? Tryz.prog 265:=KC Tryz.func265 (by kernel_rfl) rfl
theorem KE6:Callee? Tryz.prog 263:=KC Tryz.func263 (by kernel_rfl) rfl
theorem KE7:Callee? Tryz.prog 174:=KC Tryz.func174 (by kernel_rfl) rfl
theorem KHG:Callee? Tryz.prog 207:=KC Tryz.func207 (by kernel_rfl) rfl
theorem KHH:Callee? Tryz.prog 208:=KC Tryz.func208 (by kernel_rfl) rfl
theorem KCd:Callee? Tryz.prog 100:=KC Tryz.func100 (by kernel_rfl) rfl
theorem KHI:Callee? Tryz.prog 123:=KC Tryz.func123 (by kernel_rfl) rfl
theorem KH8:Callee? Tryz.prog 99:=KC Tryz.func99 (by kernel_rfl) rfl
theorem KE8:Callee? Tryz.prog 206:=KC Tryz.func206 (by kernel_rfl) rfl
theorem KDj:Callee? Tryz.prog 170:=KC Tryz.func170 (by kernel_rfl) rfl
theorem KKs:Callee? Tryz.prog 152:=KC Tryz.func152 (by kernel_rfl) rfl
theorem KJR:Callee? Tryz.prog 153:=KC Tryz.func153 (by kernel_rfl) rfl
theorem KAf:Callee? Tryz.prog 124:=KC Tryz.func124 (by kernel_rfl) rfl
theorem KMN:Callee? Tryz.prog 51:=KC Tryz.func51 (by kernel_rfl) rfl
theorem KKt:Callee? Tryz.prog 53:=KC Tryz.func53 (by kernel_rfl) rfl
theorem KJS:Callee? Tryz.prog 180:=KC Tryz.func180 (by kernel_rfl) rfl
theorem KMO:Callee? Tryz.prog 52:=KC Tryz.func52 (by kernel_rfl) rfl
theorem KJT:Callee? Tryz.prog 241:=KC Tryz.func241 (by kernel_rfl) rfl
theorem KMP:Callee? Tryz.prog 201:=KC Tryz.func201 (by kernel_rfl) rfl
theorem KJU:Callee? Tryz.prog 221:=KC Tryz.func221 (by kernel_rfl) rfl
theorem KKu:Callee? Tryz.prog 213:=KC Tryz.func213 (by kernel_rfl) rfl
theorem KAR:Callee? Tryz.prog 245:=KC Tryz.func245 (by kernel_rfl) rfl
theorem KAS:Callee? Tryz.prog 254:=KC Tryz.func254 (by kernel_rfl) rfl
theorem Zv:Callee? Tryz.prog 228:=KC Tryz.func228 (by kernel_rfl) rfl
theorem KCe:Callee? Tryz.prog 240:=KC Tryz.func240 (by kernel_rfl) rfl
theorem KCf:Callee? Tryz.prog 246:=KC Tryz.func246 (by kernel_rfl) rfl
theorem UH:Callee? Tryz.prog 244:=KC Tryz.func244 (by kernel_rfl) rfl
theorem GP:Callee? Tryz.prog 242:=KC Tryz.func242 (by kernel_rfl) rfl
theorem KDk:Callee? Tryz.prog 243:=KC Tryz.func243 (by kernel_rfl) rfl
theorem Gu:Callee? Tryz.prog 227:=KC Tryz.func227 (by kernel_rfl) rfl
theorem KWn:KHm Tryz.prog 139 0=some 0:=by kernel_rfl
theorem KWo:KHm Tryz.prog 233 1=some 1:=by kernel_rfl
theorem KYt:KHm Tryz.prog 29 3=some 3:=by kernel_rfl
theorem KYu:KHm Tryz.prog 70 1=some 1:=by kernel_rfl
theorem KaB:niB Tryz.prog 137=true:=by kernel_rfl
theorem KaC:niB Tryz.prog 229=true:=by kernel_rfl
theorem KaD:Gl Tryz.prog 137=some [(0,1),(1,1)]:=by kernel_rfl
theorem KaE:Gl Tryz.prog 229=some [(0,1)]:=by kernel_rfl
theorem pl70:Gl Tryz.prog 70=some [(0,1),(1,1)]:=by kernel_rfl
theorem sc22:scB Tryz.prog 22=true:=by kernel_rfl
theorem sc23:scB Tryz.prog 23=true:=by kernel_rfl
theorem sc3:scB Tryz.prog 3=true:=by kernel_rfl
theorem sz22:szB Tryz.prog 22 1=true:=by kernel_rfl
theorem sz23:szB Tryz.prog 23 1=true:=by kernel_rfl
theorem sz29:szB Tryz.prog 29 4=true:=by kernel_rfl
theorem sz3:szB Tryz.prog 3 1=true:=by kernel_rfl
theorem sz54:szB Tryz.prog 54 4=true:=by kernel_rfl
end Gx
namespace Gx
open Go
def qL (x0:ByteArray) (x1:Int):M Sl:=M.fail
theorem KGF (x0:ByteArray) (x1:Int):KY Tryz.prog 206 #[.string x0,.int .i64 x1] (λ(r:Sl)=>r.v) (qL x0 x1):=λw Q H=>H.elim
end Gx
namespace Gx
open Go Go.Proofs Go.Shelf Go.Sort Go.RowKit
def KJs:Go.Shelf.Ren:=⟨fun|119=>236|120=>220|129=>248|137=>100|138=>207|143=>208|151=>192|152=>219|160=>99|195=>222|197=>191|213=>211|217=>140|218=>223|219=>224|224=>237|225=>238|227=>135|228=>190|231=>133|232=>134|233=>136|234=>137|235=>138|236=>139|240=>102|246=>216|247=>262|260=>218|265=>225|266=>194|267=>239|271=>193|276=>141|283=>231|284=>232|285=>233|286=>234|287=>264|314=>252|317=>247|318=>249|319=>250|320=>251|321=>269|322=>270|337=>255|338=>256|n=>n,fun|0=>0|2=>2|3=>3|4=>4|5=>5|9=>9|20=>20|21=>21|37=>44|46=>210|51=>251|53=>216|70=>80|72=>82|75=>84|80=>88|105=>211|116=>166|117=>167|119=>242|124=>170|138=>244|139=>245|146=>254|164=>171|167=>265|171=>236|173=>239|175=>266|212=>250|213=>252|232=>261|233=>262|n=>n,fun|1=>0|3=>1|4=>2|17=>3|18=>4|19=>5|n=>n⟩
theorem KKv:Lays.n213 Tryz.prog KJs:={
 mixed:=by kernel_rfl
 f213:=Tryz.func211.trans (Ew some (by kernel_rfl))
 f265:=Tryz.func225.trans (Ew some (by kernel_rfl))
 t3:=Tryz.underlying3
 a3:=Tryz.isAgg3
 z3:=Tryz.sizeOf3
 v3:=Tryz.zeroValue3
 t9:=Tryz.underlying9
 a9:=Tryz.isAgg9
 z9:=Tryz.sizeOf9
 v9:=Tryz.zeroValue9}
theorem KKw:Lays.n219 Tryz.prog KJs:={
 mixed:=by kernel_rfl
 f217:=Tryz.func140.trans (Ew some (by kernel_rfl))
 f219:=Tryz.func224.trans (Ew some (by kernel_rfl))
 f224:=Tryz.func237.trans (Ew some (by kernel_rfl))
 f225:=Tryz.func238.trans (Ew some (by kernel_rfl))
 f266:=Tryz.func194.trans (Ew some (by kernel_rfl))
 f267:=Tryz.func239.trans (Ew some (by kernel_rfl))
 f314:=Tryz.func252.trans (Ew some (by kernel_rfl))
 t3:=Tryz.underlying3
 a3:=Tryz.isAgg3
 z3:=Tryz.sizeOf3
 v3:=Tryz.zeroValue3
 t4:=Tryz.underlying4
 a4:=Tryz.isAgg4
 z4:=Tryz.sizeOf4
 v4:=Tryz.zeroValue4
 t5:=Tryz.underlying5
 a5:=Tryz.isAgg5
 z5:=Tryz.sizeOf5
 v5:=Tryz.zeroValue5
 t9:=Tryz.underlying9
 a9:=Tryz.isAgg9
 z9:=Tryz.sizeOf9
 v9:=Tryz.zeroValue9
 t46:=Tryz.underlying210
 a46:=Tryz.isAgg210
 z46:=Tryz.sizeOf210
 v46:=Tryz.zeroValue210
 t51:=Tryz.underlying251
 a51:=Tryz.isAgg251
 z51:=Tryz.sizeOf251
 v51:=Tryz.zeroValue251
 t146:=Tryz.underlying254
 a146:=Tryz.isAgg254
 z146:=Tryz.sizeOf254
 v146:=Tryz.zeroValue254
 g1:=by kernel_rfl}
theorem KKx:Lays.n217 Tryz.prog KJs:={
 mixed:=by kernel_rfl
 f217:=Tryz.func140.trans (Ew some (by kernel_rfl))
 f266:=Tryz.func194.trans (Ew some (by kernel_rfl))
 t3:=Tryz.underlying3
 a3:=Tryz.isAgg3
 z3:=Tryz.sizeOf3
 v3:=Tryz.zeroValue3
 t5:=Tryz.underlying5
 a5:=Tryz.isAgg5
 z5:=Tryz.sizeOf5
 v5:=Tryz.zeroValue5
 t9:=Tryz.underlying9
 a9:=Tryz.isAgg9
 z9:=Tryz.sizeOf9
 v9:=Tryz.zeroValue9}
theorem KJV:LaysC.n247 Tryz.prog KJs:={
 mixed:=by kernel_rfl
 f247:=Tryz.func262.trans (Ew some (by kernel_rfl))
 f287:=Tryz.func264.trans (Ew some (by kernel_rfl))
 f321:=Tryz.func269.trans (Ew some (by kernel_rfl))
 f322:=Tryz.func270.trans (Ew some (by kernel_rfl))
 t0:=Tryz.underlying0
 a0:=Tryz.isAgg0
 z0:=Tryz.sizeOf0
 v0:=Tryz.zeroValue0
 t2:=Tryz.underlying2
 a2:=Tryz.isAgg2
 z2:=Tryz.sizeOf2
 v2:=Tryz.zeroValue2
 t3:=Tryz.underlying3
 a3:=Tryz.isAgg3
 z3:=Tryz.sizeOf3
 v3:=Tryz.zeroValue3
 t4:=Tryz.underlying4
 a4:=Tryz.isAgg4
 z4:=Tryz.sizeOf4
 v4:=Tryz.zeroValue4
 t5:=Tryz.underlying5
 a5:=Tryz.isAgg5
 z5:=Tryz.sizeOf5
 v5:=Tryz.zeroValue5
 t9:=Tryz.underlying9
 a9:=Tryz.isAgg9
 z9:=Tryz.sizeOf9
 v9:=Tryz.zeroValue9
 t21:=Tryz.underlying21
 a21:=Tryz.isAgg21
 z21:=Tryz.sizeOf21
 v21:=Tryz.zeroValue21
 t37:=Tryz.underlying44
 a37:=Tryz.isAgg44
 z37:=Tryz.sizeOf44
 v37:=Tryz.zeroValue44
 t46:=Tryz.underlying210
 a46:=Tryz.isAgg210
 z46:=Tryz.sizeOf210
 v46:=Tryz.zeroValue210
 t53:=Tryz.underlying216
 a53:=Tryz.isAgg216
 z53:=Tryz.sizeOf216
 v53:=Tryz.zeroValue216
 t75:=Tryz.underlying84
 a75:=Tryz.isAgg84
 z75:=Tryz.sizeOf84
 v75:=Tryz.zeroValue84
 t167:=Tryz.underlying265
 a167:=Tryz.isAgg265
 z167:=Tryz.sizeOf265
 v167:=Tryz.zeroValue265
 t175:=Tryz.underlying266
 a175:=Tryz.isAgg266
 z175:=Tryz.sizeOf266
 v175:=Tryz.zeroValue266
 t80:=Tryz.underlying88
 a80:=Tryz.isAgg88
 z80:=Tryz.sizeOf88
 v80:=Tryz.zeroValue88
 i0:=by kernel_rfl
 i2:=by kernel_rfl
 i3:=by kernel_rfl
 i4:=by kernel_rfl
 i5:=by kernel_rfl
 i9:=by kernel_rfl
 i21:=by kernel_rfl
 i37:=by kernel_rfl
 i46:=by kernel_rfl
 i53:=by kernel_rfl
 i75:=by kernel_rfl
 i80:=by kernel_rfl
 i167:=by kernel_rfl
 i175:=by kernel_rfl
 c0:=by kernel_rfl
 c2:=by kernel_rfl
 c3:=by kernel_rfl
 c4:=by kernel_rfl
 c5:=by kernel_rfl
 c9:=by kernel_rfl
 c21:=by kernel_rfl
 c37:=by kernel_rfl
 c46:=by kernel_rfl
 c53:=by kernel_rfl
 c75:=by kernel_rfl
 c80:=by kernel_rfl
 c167:=by kernel_rfl
 c175:=by kernel_rfl}
theorem KKy:Lays.n160 Tryz.prog KJs:={
 mixed:=by kernel_rfl
 f119:=Tryz.func236.trans (Ew some (by kernel_rfl))
 f120:=Tryz.func220.trans (Ew some (by kernel_rfl))
 f137:=Tryz.func100.trans (Ew some (by kernel_rfl))
 f151:=Tryz.func192.trans (Ew some (by kernel_rfl))
 f152:=Tryz.func219.trans (Ew some (by kernel_rfl))
 f160:=Tryz.func99.trans (Ew some (by kernel_rfl))
 f197:=Tryz.func191.trans (Ew some (by kernel_rfl))
 f217:=Tryz.func140.trans (Ew some (by kernel_rfl))
 f224:=Tryz.func237.trans (Ew some (by kernel_rfl))
 f225:=Tryz.func238.trans (Ew some (by kernel_rfl))
 f227:=Tryz.func135.trans (Ew some (by kernel_rfl))
 f228:=Tryz.func190.trans (Ew some (by kernel_rfl))
 f231:=Tryz.func133.trans (Ew some (by kernel_rfl))
 f232:=Tryz.func134.trans (Ew some (by kernel_rfl))
 f233:=Tryz.func136.trans (Ew some (by kernel_rfl))
 f234:=Tryz.func137.trans (Ew some (by kernel_rfl))
 f235:=Tryz.func138.trans (Ew some (by kernel_rfl))
 f236:=Tryz.func139.trans (Ew some (by kernel_rfl))
 f260:=Tryz.func218.trans (Ew some (by kernel_rfl))
 f266:=Tryz.func194.trans (Ew some (by kernel_rfl))
 f271:=Tryz.func193.trans (Ew some (by kernel_rfl))
 t0:=Tryz.underlying0
 a0:=Tryz.isAgg0
 z0:=Tryz.sizeOf0
 v0:=Tryz.zeroValue0
 t3:=Tryz.underlying3
 a3:=Tryz.isAgg3
 z3:=Tryz.sizeOf3
 v3:=Tryz.zeroValue3
 t4:=Tryz.underlying4
 a4:=Tryz.isAgg4
 z4:=Tryz.sizeOf4
 v4:=Tryz.zeroValue4
 t5:=Tryz.underlying5
 a5:=Tryz.isAgg5
 z5:=Tryz.sizeOf5
 v5:=Tryz.zeroValue5
 t9:=Tryz.underlying9
 a9:=Tryz.isAgg9
 z9:=Tryz.sizeOf9
 v9:=Tryz.zeroValue9
 t21:=Tryz.underlying21
 a21:=Tryz.isAgg21
 z21:=Tryz.sizeOf21
 v21:=Tryz.zeroValue21
 t46:=Tryz.underlying210
 a46:=Tryz.isAgg210
 z46:=Tryz.sizeOf210
 v46:=Tryz.zeroValue210
 t105:=Tryz.underlying211
 a105:=Tryz.isAgg211
 z105:=Tryz.sizeOf211
 v105:=Tryz.zeroValue211
 t116:=Tryz.underlying166
 a116:=Tryz.isAgg166
 z116:=Tryz.sizeOf166
 t117:=Tryz.underlying167
 a117:=Tryz.isAgg167
 z117:=Tryz.sizeOf167
 v117:=Tryz.zeroValue167
 t119:=Tryz.underlying242
 a119:=Tryz.isAgg242
 z119:=Tryz.sizeOf242
 t124:=Tryz.underlying170
 a124:=Tryz.isAgg170
 z124:=Tryz.sizeOf170
 v124:=Tryz.zeroValue170
 t138:=Tryz.underlying244
 a138:=Tryz.isAgg244
 z138:=Tryz.sizeOf244
 v138:=Tryz.zeroValue244
 t139:=Tryz.underlying245
 a139:=Tryz.isAgg245
 z139:=Tryz.sizeOf245
 v139:=Tryz.zeroValue245
 g3:=by kernel_rfl
 g4:=by kernel_rfl}
theorem KKz:Lays.n138 Tryz.prog KJs:={
 mixed:=by kernel_rfl
 f138:=Tryz.func207.trans (Ew some (by kernel_rfl))
 f143:=Tryz.func208.trans (Ew some (by kernel_rfl))
 f195:=Tryz.func222.trans (Ew some (by kernel_rfl))
 f217:=Tryz.func140.trans (Ew some (by kernel_rfl))
 f218:=Tryz.func223.trans (Ew some (by kernel_rfl))
 f219:=Tryz.func224.trans (Ew some (by kernel_rfl))
 f224:=Tryz.func237.trans (Ew some (by kernel_rfl))
 f225:=Tryz.func238.trans (Ew some (by kernel_rfl))
 f266:=Tryz.func194.trans (Ew some (by kernel_rfl))
 f267:=Tryz.func239.trans (Ew some (by kernel_rfl))
 f314:=Tryz.func252.trans (Ew some (by kernel_rfl))
 t0:=Tryz.underlying0
 a0:=Tryz.isAgg0
 z0:=Tryz.sizeOf0
 v0:=Tryz.zeroValue0
 t3:=Tryz.underlying3
 a3:=Tryz.isAgg3
 z3:=Tryz.sizeOf3
 v3:=Tryz.zeroValue3
 t4:=Tryz.underlying4
 a4:=Tryz.isAgg4
 z4:=Tryz.sizeOf4
 v4:=Tryz.zeroValue4
 t5:=Tryz.underlying5
 a5:=Tryz.isAgg5
 z5:=Tryz.sizeOf5
 v5:=Tryz.zeroValue5
 t9:=Tryz.underlying9
 a9:=Tryz.isAgg9
 z9:=Tryz.sizeOf9
 v9:=Tryz.zeroValue9
 t46:=Tryz.underlying210
 a46:=Tryz.isAgg210
 z46:=Tryz.sizeOf210
 v46:=Tryz.zeroValue210
 t51:=Tryz.underlying251
 a51:=Tryz.isAgg251
 z51:=Tryz.sizeOf251
 v51:=Tryz.zeroValue251
 t146:=Tryz.underlying254
 a146:=Tryz.isAgg254
 z146:=Tryz.sizeOf254
 v146:=Tryz.zeroValue254
 g1:=by kernel_rfl}
def Zx (x0 x1:ByteArray):M Int:=M.pure (Lib.compareBytes x0.data.toList x1.data.toList)
theorem GJ (x0 x1:ByteArray):KY Tryz.prog 211 #[.string x0,.string x1] (λ(r:Int)=>.int .i64 r) (Zx x0 x1):=by
 intro w Q H
 refine(Any.bytealg_CompareString KKv x0 x1 w).mono ?_
 rintro e w' ⟨rfl,rfl⟩
 exact⟨_,rfl,H,Rest.refl _⟩
def U0 (x0 x1:ByteArray):M Int:=
 ⟨λh Q=>∃c:UInt8,x1=⟨#[c]⟩/\Q (Lib.indexByte x0.data.toList c) h,λhq ⟨c,h1,h2⟩=>⟨c,h1,hq _ _ h2⟩⟩
theorem Nu (x0 x1:ByteArray):KY Tryz.prog 224 #[.string x0,.string x1] (λ(r:Int)=>.int .i64 r) (U0 x0 x1):=by
 intro w Q ⟨c,h1,h2⟩
 subst h1
 refine(Any.stringslite_Index_one KKw x0 c w).mono ?_
 rintro e w' ⟨rfl,rfl⟩
 exact⟨_,rfl,h2,Rest.refl _⟩
def ZX (x0:ByteArray) (x1:Int):M Int:=M.pure (Lib.indexByte x0.data.toList x1.toNat.toUInt8)
theorem GK (x0:ByteArray) (x1:Int):KY Tryz.prog 140 #[.string x0,.int .u8 x1] (λ(r:Int)=>.int .i64 r) (ZX x0 x1):=by
 intro w Q H
 refine(Any.stringslite_IndexByte KKx x0 x1 w).mono ?_
 rintro e w' ⟨rfl,rfl⟩
 exact⟨_,rfl,H,Rest.refl _⟩
def Va (x0:ByteArray) (x1:Int) (x2:Int):M (Int×Value):=
 ⟨λh Q=>x1=10/\x2=64/\x0.size<=9223372036854775806/\∀h':Heap,h.size<=h'.size->(∀i,i<h.size->h'[i]?=h[i]?)->(match Lib.parseIntB 64 x0.data.toList with| .ok v=>Q (v,.nilIface) h'| .range=>Q (Lib.intSat 64 x0.data.toList,.iface 265 (.int .i64 1)) h'|_=>Q (0,.iface 265 (.int .i64 2)) h'),
  λhq ⟨h0,h1,h2,h3⟩=>⟨h0,h1,h2,λh' a b=>by have h5:=h3 h' a b;revert h5;cases Lib.parseIntB 64 x0.data.toList<;>exact λh5=>hq _ _ h5⟩⟩
theorem qM (x0:ByteArray) (x1:Int) (x2:Int):KY Tryz.prog 262 #[.string x0,.int .i64 x1,.int .i64 x2] (λ(r:Int×Value)=>.tuple #[.int .i64 r.1,r.2]) (Va x0 x1 x2):=by
 intro w Q ⟨h0,h1,h2,h4⟩
 subst h0
 subst h1
 refine(Any.internal_strconv_ParseInt_10_all64 KJV x0 h2 w).mono ?_
 rintro e w' ⟨rfl,hw⟩
 have hb:w.heap.size<=w'.heap.size/\(∀i,i<w.heap.size->w'.heap[i]?=w.heap[i]?)/\Rest w w':=by
  rcases hw with rfl|⟨t,rfl⟩
  ·exact⟨Ee _,λ_ _=>rfl,Rest.refl _⟩
  ·have hb:=Lib.bytesWorld_below w (5) t
   exact⟨hb.size,hb.block,⟨hb.os,hb.output,hb.tape,IM w.drawn⟩⟩
 obtain⟨b1,b2,b3⟩:=hb
 have h5:=h4 _ b1 b2
 cases hp:Lib.parseIntB 64 x0.data.toList<;>(rw [hp]at h5;exact⟨_,rfl,h5,b3⟩)
def XQ (x0:ByteArray) (x1:ByteArray):M (Option Addr):=M.fail
theorem KBM (x0:ByteArray) (x1:ByteArray):KY Tryz.prog 265 #[.string x0,.string x1] (λ(r:Option Addr)=>.pointer r) (XQ x0 x1):=λw Q H=>H.elim
def GW (x0:ByteArray) (x1:ByteArray) (x2:Int):M (Option Addr):=M.fail
theorem KDl (x0:ByteArray) (x1:ByteArray) (x2:Int):KY Tryz.prog 267 #[.string x0,.string x1,.int .i64 x2] (λ(r:Option Addr)=>.pointer r) (GW x0 x1 x2):=λw Q H=>H.elim
def Yk (x0:ByteArray) (x1:ByteArray) (x2:Int):M (Option Addr):=M.fail
theorem KAp (x0:ByteArray) (x1:ByteArray) (x2:Int):KY Tryz.prog 268 #[.string x0,.string x1,.int .i64 x2] (λ(r:Option Addr)=>.pointer r) (Yk x0 x1 x2):=λw Q H=>H.elim
def bldT (t:TypeId):Prop:=t=82\/t=111
def KMQ (h:Heap):Prop:=∃fz ty,h[3]?=some (.cells (Lib.pow10Tab.map λz=>Value.int .u64 z).toArray ty fz)
def KRh (h:Heap):Prop:=∃cs ty fz,h[5]?=some (.cells cs ty fz)/\cs[15]?=some (.int .u8 4)
def Xh (x0 x1:ByteArray):M ByteArray:=
 ⟨λh Q=>2<=x1.size/\x1.size<4294967281/\0<x0.size/\x0.size<=9223372036854775807/\(∀(j:Nat) b,x1.data.toList[j]?=some b->b.toNat<128)/\∀h':Heap,h.size<=h'.size->(∀i,i<h.size->h'[i]?=h[i]?)->Q ⟨(Lib.trimS x0.data.toList x1.data.toList).toArray⟩ h',
  λhq ⟨h0,h1,h2,h3,h4,h5⟩=>⟨h0,h1,h2,h3,h4,λh' a b=>hq _ _ (h5 h' a b)⟩⟩
theorem KJW (x0 x1:ByteArray):KY Tryz.prog 99 #[.string x0,.string x1] (λ(r:ByteArray)=>.string r) (Xh x0 x1):=by
 intro w Q ⟨h0,h1,h2,h3,h4,h5⟩
 have h116:(Tryz.prog.info? (166)).map (λi=>(i.zero,i.size))=some (some (.agg (Array.replicate 256 (.bool false))),256):=by kernel_rfl
 refine(Any.strings_Trim_set KKy (zero_of_info h116).1 (zero_of_info h116).2 x0 x1 w h0 h2 h3 h1 h4).mono ?_
 rintro e w' ⟨rfl,q,rfl⟩
 refine⟨_,rfl,h5 _ ?_ ?_,⟨rfl,rfl,rfl,Nat.le_add_right _ _⟩⟩
 ·show w.heap.size<=((w.heap.push _).push _).size
  simp;omega
 ·intro i hi
  show((w.heap.push _).push _)[i]?=_
  rw [I0,if_neg (by rw [F4];omega),I0,if_neg (by omega)]
def KAT (x0 x1:ByteArray):M Int:=
 ⟨λh Q=>∃c:UInt8,x1=⟨#[c]⟩/\Q (Lib.countByte x0.data.toList c) h,λhq ⟨c,h1,h2⟩=>⟨c,h1,hq _ _ h2⟩⟩
theorem KH9 (x0 x1:ByteArray):KY Tryz.prog 207 #[.string x0,.string x1] (λ(r:Int)=>.int .i64 r) (KAT x0 x1):=by
 intro w Q ⟨c,h1,h2⟩
 subst h1
 refine(Any.strings_Count_one KKz x0 c w).mono ?_
 rintro e w' ⟨rfl,rfl⟩
 exact⟨_,rfl,h2,Rest.refl _⟩
abbrev gER:Nat:=7
end Gx
namespace Gx
open Go
def qN (x0:Option Addr):M (Value):=do
 let Xx2<-mkB NQ #[.pointer x0]
 M.pure (Value.func (.func Yi) #[] #[.pointer (some Xx2)])
theorem KGG (x0:Option Addr):KY Tryz.prog 45 #[.pointer x0] (λ(r:Value)=>r) (qN x0):=
 KG [] [0] [.V] [(0,.P x0)] .o Tryz.func45 rfl rfl ⟨rfl,trivial⟩ rfl (by kernel_rfl) (by kernel_rfl)
def Jt (Cc3:Option Addr):M (Bool):=do
 let Xx5<-nilP Cc3
 let Xx6<-nilP Cc3
 let Xx7<-ldI .i64 ((Xx5).add 1)
 let Xx8<-ldS ((Xx6).add 0)
 M.pure (decide (Xx7<(Xx8.size:Int)))
def Ju (self1:(Unit)->M (Bool)) (Cc24:Option Addr) (Xx23:Bool):M (Bool):=do
 M.ite Xx23 (do
  let Xx25<-nilP Cc24
  let Xx26<-ldI .i64 ((Xx25).add 1)
  let Xx27<-nilP Cc24
  stV ((Xx27).add 1) (.int .i64 (IntKind.wrap .i64 (Xx26+1)))
  self1 ()
  ) (do
  Jt Cc24
  )
def YO (Cc9:Option Addr) (self1:(Unit)->M (Bool)):(Unit)->M (Bool):=λs=>match s with
 |()=>do
  let Xx13<-nilP Cc9
  let Xx14<-nilP Cc9
  let Xx15<-ldI .i64 ((Xx13).add 1)
  let Xx16<-ldS ((Xx14).add 0)
  M.ite (decide (Xx15<(Xx16.size:Int))) (do
   let Xx18<-nilP Cc9
   let Xx19<-nilP Cc9
   let Xx20<-ldS ((Xx18).add 0)
   let Xx21<-ldI .i64 ((Xx19).add 1)
   let Xx22<-ixS Xx20 Xx21
   M.ite (Xx22==32) (do
    Ju self1 Cc9 (Xx22==32)
    ) (do
    Ju self1 Cc9 (Xx22==10)
    )
   ) (do
   Jt Cc9
   )
def Jy (x0:Option Addr):M (Bool):=do
 M.loop (YO x0) ()
theorem Ni (x0:Option Addr):KY Tryz.prog 46 #[.pointer x0] (λ(r:Bool)=>.bool r) (Jy x0):=
 KG [] [0,3,7,13,17,25,32,36] [.B] [(0,.P x0)] (.q .o (.b (.q .o (.q (.b (.l [(0,.P)] [] (λ(t:Option Addr)=>YO t) (λself1=>.q (.q (.r [0,1,2,4,0,16,32,64,128,264] [0,1,2,4,0,16,32,64,128,264] [0,1,3,7,0,16,48,112,240,511] (.pu 0 (.pu 1 (.pu 2 (.pu 4 (.pu 5 (.pu 6 (.pu 3 (.pu 7 (.pu 8 (.pu 9 (.st [9] .dn)))))))))))) .o) (.b (.q (.r [0,1,2,4,0,16,32,64,136] [0,1,2,4,0,16,32,64,136] [0,1,3,7,0,16,48,112,255] (.pu 0 (.pu 1 (.pu 2 (.pu 4 (.pu 5 (.pu 6 (.pu 3 (.pu 7 (.pu 8 (.st [8] .dn))))))))))) (.b (.q .o (.j [(0,.P),(22,.B)] (λ(t:Option Addr×Bool)=>Ju self1 t.1 t.2) .o)))))))) (.j [(0,.P)] (λ(t:Option Addr)=>Jt t) (.q (.r [0,1,2,4,0,16,32,64,128,264,1023] [0,1,2,4,0,16,32,64,128,264,512] [0,1,3,7,0,16,48,112,240,511,1023] (.pu 0 (.pu 1 (.pu 2 (.pu 4 (.pu 5 (.pu 6 (.pu 3 (.pu 7 (.pu 8 (.pu 9 (.pu 10 (.st [9,10] .dn))))))))))))) .o)))))) Tryz.func46 rfl rfl ⟨rfl,trivial⟩ rfl (by kernel_rfl) (by kernel_rfl)
noncomputable def KCg:CalleeS Tryz.prog:=mkC KA1 Gt [.P] [.B] (λ(t:Option Addr)=>Jy t) (λ(t:Option Addr)=>Ni t)
theorem KYv:KNm Tryz.f13 8 [[],[0],[],[1,2,0,1,2],[3,0,1,2,3]] [[],[0],[],[1],[]] [[],[0],[],[0,1,2],[0,1,2,3]]=true:=by kernel_rfl
def KBj (Cc21:Addr) (Cc22:Addr) (Cc23:Addr) (Cc24:Addr) (lp1:Nat):(Ea)->M Nat:=λx=>match x with
 |Xx25=>do
  let Xx26<-mkB KL (#[.int .i64 0,.string ByteArray.empty,.int .i64 0,.int .i64 0]:Ea)
  M.need (Xx25.size=4)
  stG Xx26 Xx25
  let _<-beg lp1
  let Xx30<-ldL Cc24
  M.ite ((Xx30.len:Int)==4096) (do
   let Xx32<-ldI .i64 ((Xx26).add 3)
   stV Cc21 ((Sl.nil:Sl).v)
   chk (λh:Heap=>(KJ h ((Xx26).add 3)=some (.int .i64 Xx32)))
   stV Cc22 (.int .i64 Xx32)
   stV Cc23 (.int .i64 3)
   M.pure 1
   ) (do
   let Xx36<-ldL Cc24
   let Xx37<-ldG 4 Xx26
   let y_39<-Xs 4 1 (#[.int .i64 0,.string ByteArray.empty,.int .i64 0,.int .i64 0]:Ea) [(0,.agg Xx37)]
   let Xx38<-bdL KL 1 y_39
   let Xx40<-apL KL 4 40 (#[.int .i64 0,.string ByteArray.empty,.int .i64 0,.int .i64 0]:Ea) Xx36 Xx38
   stV Cc24 ((Xx40:Sl).v)
   M.pure 0
   )
theorem KWp:KNm Tryz.f13 11 [[],[0],[1],[2],[],[3,4,0,1,2,3,4],[5,0,1,2,3,4,5]] [[],[0],[1],[2],[],[3],[]] [[],[0],[0,1],[0,1,2],[],[0,1,2,3,4],[0,1,2,3,4,5]]=true:=by kernel_rfl
def KIA (x0:ByteArray):M (Sl×Int×Int):=do
 let Xx2<-mkB Vy (#[.slice none 0 0]:Ea)
 let Xx3<-mkB WS (#[.int .i64 0]:Ea)
 let Xx4<-mkB zF (#[.int .i64 0]:Ea)
 M.ite (decide ((x0.size:Int)>16384)) (do
  stV Xx2 ((Sl.nil:Sl).v)
  stV Xx3 (.int .i64 0)
  stV Xx4 (.int .i64 3)
  let _<-shut ([])
  let Rr11<-ldL Xx2
  let Rr12<-ldI .i64 Xx3
  let Rr13<-ldI .i64 Xx4
  M.pure (Rr11,Rr12,Rr13)
  ) (do
  let Xx15<-mkB KC2 (#[.string x0,.int .i64 0]:Ea)
  let Xx17<-mkB Vy (#[.slice none 0 0]:Ea)
  let Xx20<-qN (some Xx15)
  let j_42<-rgF Tryz.prog (λx:Ea=>[.agg x]) [.ret] (KBj Xx2 Xx3 Xx4 Xx17) Xx20
  M.ite (decide (j_42.1=1)) (do
   let _<-shut (j_42.2::[])
   let Rr43<-ldL Xx2
   let Rr44<-ldI .i64 Xx3
   let Rr45<-ldI .i64 Xx4
   M.pure (Rr43,Rr44,Rr45)
   ) (do
   let Xx48<-Jy (some Xx15)
   M.ite Xx48 (do
    let Xx50<-nilP (some Xx15)
    let Xx51<-ldI .i64 ((Xx50).add 1)
    stV Xx2 ((Sl.nil:Sl).v)
    chk (λh:Heap=>(KJ h ((Xx50).add 1)=some (.int .i64 Xx51)))
    stV Xx3 (.int .i64 Xx51)
    stV Xx4 (.int .i64 150)
    let _<-shut (j_42.2::[])
    let Rr55<-ldL Xx2
    let Rr56<-ldI .i64 Xx3
    let Rr57<-ldI .i64 Xx4
    M.pure (Rr55,Rr56,Rr57)
    ) (do
    let Xx59<-ldL Xx17
    stV Xx2 ((Xx59:Sl).v)
    stV Xx3 (.int .i64 (x0.size:Int))
    stV Xx4 (.int .i64 0)
    let _<-shut (j_42.2::[])
    let Rr63<-ldL Xx2
    let Rr64<-ldI .i64 Xx3
    let Rr65<-ldI .i64 Xx4
    M.pure (Rr63,Rr64,Rr65)
    )
   )
  )
theorem KRi (x0:ByteArray):KY Tryz.prog 13 #[.string x0] (λ(r:Sl×Int×Int)=>.tuple #[(r.1:Sl).v,.int .i64 r.2.1,.int .i64 r.2.2]) (KIA x0):=by
 refine KRP [(0,.string x0)] Tryz.func13 rfl rfl (Fc rfl) (KAH ⟨rfl,trivial⟩) (λw0 w Q R a hret hE hR H=>?_)
 unfold KIA at H
 refine GQ (λK hK_1=>?_)
 refine JE ?_
 obtain⟨Xx2,qXx2,H⟩:=H
 refine KEZ (v:=.pointer (some Xx2)) rfl rfl hE rfl hR (GR zr22 qXx2) (λa w hE hR hh=>?_)
 replace H:=M.at hh H;clear hh
 obtain⟨Xx3,qXx3,H⟩:=H
 refine KEZ (v:=.pointer (some Xx3)) rfl rfl hE rfl hR (GR zr3 qXx3) (λa w hE hR hh=>?_)
 replace H:=M.at hh H;clear hh
 obtain⟨Xx4,qXx4,H⟩:=H
 refine KEZ (v:=.pointer (some Xx4)) rfl rfl hE rfl hR (GR zr23 qXx4) (λa w hE hR hh=>?_)
 replace H:=M.at hh H;clear hh
 refine zb ?_
 refine hK_1 _ _ ?_
 refine GQ (λK hK_5=>?_)
 refine GQ (λK hK_6=>?_)
 refine JE ?_
 refine VD (v:=.string x0) rfl rfl hE rfl (VC hE rfl) (λa hE=>?_)
 refine VD (v:=.int .i64 (x0.size:Int)) rfl rfl hE rfl (KJh hE rfl un9) (λa hE=>?_)
 refine VD (v:=.bool (decide ((x0.size:Int)>16384))) rfl rfl hE rfl (KJB hE rfl rfl KEX KV8) (λa hE=>?_)
 refine zb ?_
 refine hK_6 _ _ ?_
 refine KCw (decide ((x0.size:Int)>16384)) hE rfl (λhb=>?_) (λhb=>?_)
 ·replace H:=M.ite_t hb H
  refine GQ (λK hK_7=>?_)
  refine JE ?_
  obtain⟨u_8,qu_8,H⟩:=H
  refine KJC rfl rfl hE hR (Jr hE rfl rfl sz22 qu_8) (λa w hE hR hh=>?_)
  replace H:=M.at hh H;clear hh
  obtain⟨u_9,qu_9,H⟩:=H
  refine KJC rfl rfl hE hR (Jr hE rfl rfl sz3 qu_9) (λa w hE hR hh=>?_)
  replace H:=M.at hh H;clear hh
  obtain⟨u_10,qu_10,H⟩:=H
  refine KJC rfl rfl hE hR (Jr hE rfl rfl sz23 qu_10) (λa w hE hR hh=>?_)
  replace H:=M.at hh H;clear hh
  refine zb ?_
  refine hK_7 _ _ ?_
  refine KNh ?_
  refine hret _ _ _ _ _ hE hR (M.unbind H) (λw hR H=>?_)
  obtain⟨Rr11,qRr11,H⟩:=H
  obtain⟨Rr12,qRr12,H⟩:=H
  obtain⟨Rr13,qRr13,H⟩:=H
  exact⟨(Rr11,Rr12,Rr13),_,qB hE rfl (RV.cell rfl sc22 qRr11 (RV.cell rfl sc3 qRr12 (RV.cell rfl sc23 qRr13 RV.nil))),rfl,H⟩
 ·replace H:=M.ite_f hb H
  refine KJf ?_
  refine hK_5 _ _ ?_
  refine GQ (λK hK_14=>?_)
  refine JE ?_
  refine VD (v:=.string x0) rfl rfl hE rfl (VC hE rfl) (λa hE=>?_)
  refine VD (v:=.agg (#[.string x0,.int .i64 0]:Ea)) rfl rfl hE rfl (KAy hE rfl zr70 pl70 (by rfl)) (λa hE=>?_)
  obtain⟨Xx15,qXx15,H⟩:=H
  refine KEZ (v:=.pointer (some Xx15)) rfl rfl hE rfl hR (KTR hE rfl qXx15) (λa w hE hR hh=>?_)
  replace H:=M.at hh H;clear hh
  refine VD (v:=.pointer (some Xx15)) rfl rfl hE rfl (zB hE rfl) (λa hE=>?_)
  refine zb ?_
  refine hK_14 _ _ ?_
  refine GQ (λK hK_16=>?_)
  refine JE ?_
  obtain⟨Xx17,qXx17,H⟩:=H
  refine KEZ (v:=.pointer (some Xx17)) rfl rfl hE rfl hR (GR zr22 qXx17) (λa w hE hR hh=>?_)
  replace H:=M.at hh H;clear hh
  refine zb ?_
  refine hK_16 _ _ ?_
  refine GQ (λK hK_18=>?_)
  refine GQ (λK hK_19=>?_)
  refine JE ?_
  refine VD (v:=.pointer (some Xx15)) rfl rfl hE rfl (VC hE rfl) (λa hE=>?_)
  refine KVJ hE hR KEx rfl (KGG (some Xx15)) (M.unbind H) (λXx20 a w ea hR H=>?_)
  have hE:=Env.put_some hE rfl ea;clear ea
  refine zb ?_
  refine hK_19 _ _ ?_
  refine KHk ?_
  refine KTm (js:=[.ret]) (enc:=(λx:Ea=>[.agg x])) (Y:=(KBj Xx2 Xx3 Xx4 Xx17)) hE hR rfl (λx=>rfl) rfl (M.unbind H) (λlp1 Xx25 Q w0 Rr hfin a w hE hR H=>?_) (λj_42 a w hE hR H=>?_)
  ·skip
   replace hE:Env (⟨35,[]⟩:Frm) a [(2,.pointer (some Xx2)),(3,.pointer (some Xx3)),(4,.pointer (some Xx4)),(6,.pointer (some Xx17)),(16,.agg Xx25)]:=Env.cut hE (.cons rfl (.cons rfl (.cons rfl (.cons rfl (.cons rfl Subs.nil)))))
   replace H:(KBj Xx2 Xx3 Xx4 Xx17 lp1 Xx25).wp w.heap Q:=H
   unfold KBj at H
   refine JE ?_
   obtain⟨Xx26,qXx26,H⟩:=H
   refine KEZ (v:=.pointer (some Xx26)) rfl rfl hE rfl hR (GR zr29 qXx26) (λa w hE hR hh=>?_)
   replace H:=M.at hh H;clear hh
   obtain⟨qz,H⟩:=H
   obtain⟨u_27,qu_27,H⟩:=H
   refine KJC rfl rfl hE hR (KAG hE rfl rfl sz29 qz qu_27) (λa w hE hR hh=>?_)
   replace H:=M.at hh H;clear hh
   refine zb ?_
   refine KZy hR H (λw hR H=>?_)
   refine KHk ?_
   refine GQ (λK hK_28=>?_)
   refine GQ (λK hK_29=>?_)
   refine JE ?_
   obtain⟨Xx30,qXx30,H⟩:=H
   refine VD (v:=(Xx30:Sl).v) rfl rfl hE rfl (qA hE rfl sc22 qXx30) (λa hE=>?_)
   refine VD (v:=.int .i64 (Xx30.len:Int)) rfl rfl hE rfl (KV6 hE rfl 29 un22) (λa hE=>?_)
   refine VD (v:=.bool ((Xx30.len:Int)==4096)) rfl rfl hE rfl (KJB hE rfl rfl KEX KXt) (λa hE=>?_)
   refine zb ?_
   refine hK_29 _ _ ?_
   refine KCw ((Xx30.len:Int)==4096) hE rfl (λhb=>?_) (λhb=>?_)
   ·replace H:=M.ite_t hb H
    refine GQ (λK hK_31=>?_)
    obtain⟨Xx32,qXx32,H⟩:=H
    have hT:=KL3 KYv rfl rfl
    refine KF3 (λw:World=>(λh:Heap=>(KJ h ((Xx26).add 3)=some (.int .i64 Xx32))) w.heap) [3,4] #[false,false,false,false,false] mo hR rfl rfl (λw' e=>by rw [e];exact qXx32) (λw hh hR hs=>?_)
    replace H:=M.at hh H;clear hh
    refine KAx (i:=0) (v:=.pointer (some ((Xx26).add 3))) #[true,false,false,false,false] rfl rfl hT (by kernel_rfl) hE rfl (Kg rfl) (λw=>WU hE rfl KYt) (λa hE=>?_)
    refine KHr (i:=1) (v:=.int .i64 Xx32) #[true,true,false,false,false] rfl rfl hT (by kernel_rfl) hE rfl (Kg rfl) hs (λw s=>qA hE rfl sc3 s) (λa hE=>?_)
    obtain⟨u_33,qu_33,H⟩:=H
    obtain⟨_,sA,H⟩:=H
    refine KRD (i:=2) #[true,true,true,false,false] rfl rfl hT (by kernel_rfl) rfl hE hR (Kg rfl) (Jr hE rfl rfl sz22 qu_33)  (λw' e=>by rw [e];exact sA) (λa w hE hR hh hs=>?_)
    replace H:=M.at hh H;clear hh
    obtain⟨u_34,qu_34,H⟩:=H
    refine KGs (i:=3) #[true,true,true,true,false] rfl rfl hT (by kernel_rfl) rfl hE hR (Kg rfl) (Jr hE rfl rfl sz3 qu_34)  (λa w hE hR hh=>?_)
    replace H:=M.at hh H;clear hh
    obtain⟨u_35,qu_35,H⟩:=H
    refine KGs (i:=4) #[true,true,true,true,true] rfl rfl hT (by kernel_rfl) rfl hE hR (Kg rfl) (Jr hE rfl rfl sz23 qu_35)  (λa w hE hR hh=>?_)
    replace H:=M.at hh H;clear hh
    refine KJk hT (by kernel_rfl) ?_
    refine hK_31 _ _ ?_
    refine KNh ?_
    exact⟨0,rfl,hfin 1 _ _ hR H⟩
   ·replace H:=M.ite_f hb H
    refine KJf ?_
    refine hK_28 _ _ ?_
    refine JE ?_
    obtain⟨Xx36,qXx36,H⟩:=H
    refine VD (v:=(Xx36:Sl).v) rfl rfl hE rfl (qA hE rfl sc22 qXx36) (λa hE=>?_)
    obtain⟨Xx37,qXx37,H⟩:=H
    refine VD (v:=.agg Xx37) rfl rfl hE rfl (KNj hE rfl ag29 qXx37) (λa hE=>?_)
    obtain⟨y_39,qy_39,H⟩:=H
    obtain⟨Xx38,qXx38,H⟩:=H
    refine KEZ (v:=(Xx38:Sl).v) rfl rfl hE rfl hR (KKR hE rfl un22 sz29 zr29 rfl qy_39 qXx38) (λa w hE hR hh=>?_)
    replace H:=M.at hh H;clear hh
    refine t_ex (λXx40=>(Xx40:Sl).v) rfl rfl hR (M.unbind H) (λQ H=>KVS hE rfl rfl ap22 H) (λXx40 a w ea hR H=>?_)
    have hE:=Env.put_some hE rfl ea;clear ea
    obtain⟨u_41,qu_41,H⟩:=H
    refine KJC rfl rfl hE hR (Jr hE rfl rfl sz22 qu_41) (λa w hE hR hh=>?_)
    replace H:=M.at hh H;clear hh
    refine zb ?_
    exact hfin 0 _ _ hR H
  ·skip
   replace hE:Env (⟨35,(j_42.2::[])⟩:Frm) a [(0,.string x0),(2,.pointer (some Xx2)),(3,.pointer (some Xx3)),(4,.pointer (some Xx4)),(5,.pointer (some Xx15)),(6,.pointer (some Xx17))]:=Env.cut hE (.cons rfl (.cons rfl (.cons rfl (.cons rfl (.cons rfl (.cons rfl Subs.nil))))))
   refine KTk (λhj=>?_) (λhj=>?_)
   ·replace H:=M.ite_t (Ej hj) H
    refine KNh ?_
    refine hret _ _ _ _ _ hE hR (M.unbind H) (λw hR H=>?_)
    obtain⟨Rr43,qRr43,H⟩:=H
    obtain⟨Rr44,qRr44,H⟩:=H
    obtain⟨Rr45,qRr45,H⟩:=H
    exact⟨(Rr43,Rr44,Rr45),_,qB hE rfl (RV.cell rfl sc22 qRr43 (RV.cell rfl sc3 qRr44 (RV.cell rfl sc23 qRr45 RV.nil))),rfl,H⟩
   ·replace H:=M.ite_f (Eo hj) H
    refine KWV ?_
    refine hK_18 _ _ ?_
    refine GQ (λK hK_46=>?_)
    refine GQ (λK hK_47=>?_)
    refine JE ?_
    refine VD (v:=.pointer (some Xx15)) rfl rfl hE rfl (VC hE rfl) (λa hE=>?_)
    refine KVJ hE hR Gt rfl (Ni (some Xx15)) (M.unbind H) (λXx48 a w ea hR H=>?_)
    have hE:=Env.put_some hE rfl ea;clear ea
    refine zb ?_
    refine hK_47 _ _ ?_
    refine KCw Xx48 hE rfl (λhb=>?_) (λhb=>?_)
    ·replace H:=M.ite_t hb H
     refine GQ (λK hK_49=>?_)
     obtain⟨Xx50,qXx50,H⟩:=H
     obtain⟨Xx51,qXx51,H⟩:=H
     have hT:=KL3 KWp rfl rfl
     refine KF3 (λw:World=>(λh:Heap=>(KJ h ((Xx50).add 1)=some (.int .i64 Xx51))) w.heap) [5,6] #[false,false,false,false,false,false,false] mo hR rfl rfl (λw' e=>by rw [e];exact qXx51) (λw hh hR hs=>?_)
     replace H:=M.at hh H;clear hh
     refine KAx (i:=0) (v:=.pointer (some Xx15)) #[true,false,false,false,false,false,false] rfl rfl hT (by kernel_rfl) hE rfl (Kg rfl) (λw=>VC hE rfl) (λa hE=>?_)
     refine KAx (i:=1) (v:=.pointer (some Xx50)) #[true,true,false,false,false,false,false] rfl rfl hT (by kernel_rfl) hE rfl (Kg rfl) (λw=>N7 hE (KTa rfl (Ew Value.pointer qXx50))) (λa hE=>?_)
     refine KAx (i:=2) (v:=.pointer (some ((Xx50).add 1))) #[true,true,true,false,false,false,false] rfl rfl hT (by kernel_rfl) hE rfl (Kg rfl) (λw=>WU hE rfl KYu) (λa hE=>?_)
     refine KHr (i:=3) (v:=.int .i64 Xx51) #[true,true,true,true,false,false,false] rfl rfl hT (by kernel_rfl) hE rfl (Kg rfl) hs (λw s=>qA hE rfl sc3 s) (λa hE=>?_)
     obtain⟨u_52,qu_52,H⟩:=H
     obtain⟨_,sA,H⟩:=H
     refine KRD (i:=4) #[true,true,true,true,true,false,false] rfl rfl hT (by kernel_rfl) rfl hE hR (Kg rfl) (Jr hE rfl rfl sz22 qu_52)  (λw' e=>by rw [e];exact sA) (λa w hE hR hh hs=>?_)
     replace H:=M.at hh H;clear hh
     obtain⟨u_53,qu_53,H⟩:=H
     refine KGs (i:=5) #[true,true,true,true,true,true,false] rfl rfl hT (by kernel_rfl) rfl hE hR (Kg rfl) (Jr hE rfl rfl sz3 qu_53)  (λa w hE hR hh=>?_)
     replace H:=M.at hh H;clear hh
     obtain⟨u_54,qu_54,H⟩:=H
     refine KGs (i:=6) #[true,true,true,true,true,true,true] rfl rfl hT (by kernel_rfl) rfl hE hR (Kg rfl) (Jr hE rfl rfl sz23 qu_54)  (λa w hE hR hh=>?_)
     replace H:=M.at hh H;clear hh
     refine KJk hT (by kernel_rfl) ?_
     refine hK_49 _ _ ?_
     refine KNh ?_
     refine hret _ _ _ _ _ hE hR (M.unbind H) (λw hR H=>?_)
     obtain⟨Rr55,qRr55,H⟩:=H
     obtain⟨Rr56,qRr56,H⟩:=H
     obtain⟨Rr57,qRr57,H⟩:=H
     exact⟨(Rr55,Rr56,Rr57),_,qB hE rfl (RV.cell rfl sc22 qRr55 (RV.cell rfl sc3 qRr56 (RV.cell rfl sc23 qRr57 RV.nil))),rfl,H⟩
    ·replace H:=M.ite_f hb H
     refine KJf ?_
     refine hK_46 _ _ ?_
     refine GQ (λK hK_58=>?_)
     refine JE ?_
     obtain⟨Xx59,qXx59,H⟩:=H
     refine VD (v:=(Xx59:Sl).v) rfl rfl hE rfl (qA hE rfl sc22 qXx59) (λa hE=>?_)
     refine VD (v:=.string x0) rfl rfl hE rfl (VC hE rfl) (λa hE=>?_)
     refine VD (v:=.int .i64 (x0.size:Int)) rfl rfl hE rfl (KJh hE rfl un9) (λa hE=>?_)
     obtain⟨u_60,qu_60,H⟩:=H
     refine KJC rfl rfl hE hR (Jr hE rfl rfl sz22 qu_60) (λa w hE hR hh=>?_)
     replace H:=M.at hh H;clear hh
     obtain⟨u_61,qu_61,H⟩:=H
     refine KJC rfl rfl hE hR (Jr hE rfl rfl sz3 qu_61) (λa w hE hR hh=>?_)
     replace H:=M.at hh H;clear hh
     obtain⟨u_62,qu_62,H⟩:=H
     refine KJC rfl rfl hE hR (Jr hE rfl rfl sz23 qu_62) (λa w hE hR hh=>?_)
     replace H:=M.at hh H;clear hh
     refine zb ?_
     refine hK_58 _ _ ?_
     refine KNh ?_
     refine hret _ _ _ _ _ hE hR (M.unbind H) (λw hR H=>?_)
     obtain⟨Rr63,qRr63,H⟩:=H
     obtain⟨Rr64,qRr64,H⟩:=H
     obtain⟨Rr65,qRr65,H⟩:=H
     exact⟨(Rr63,Rr64,Rr65),_,qB hE rfl (RV.cell rfl sc22 qRr63 (RV.cell rfl sc3 qRr64 (RV.cell rfl sc23 qRr65 RV.nil))),rfl,H⟩
def Jz (x0:Int):M (Bool):=do
 let Xx3<-M.ite (x0==95) (do
  M.pure true
  ) (do
  let Xx4<-M.ite (decide (x0>=97)) (do
   M.pure (decide (x0<=122))
   ) (do
   M.pure false
   )
  M.pure Xx4
  )
 let Xx5<-M.ite Xx3 (do
  M.pure true
  ) (do
  let Xx6<-M.ite (decide (x0>=65)) (do
   M.pure (decide (x0<=90))
   ) (do
   M.pure false
   )
  M.pure Xx6
  )
 M.pure Xx5
theorem KCh (x0:Int):KY Tryz.prog 101 #[.int .u8 x0] (λ(r:Bool)=>.bool r) (Jz x0):=
 KG [] [] [.B] [(0,.I .u8 x0)] .o Tryz.func101 rfl rfl ⟨rfl,trivial⟩ rfl (by kernel_rfl) (by kernel_rfl)
noncomputable def KCi:CalleeS Tryz.prog:=mkC KA6 KBG [.I .u8] [.B] (λ(t:Int)=>Jz t) (λ(t:Int)=>KCh t)
def XR (Cc12:ByteArray) (self1:(Int)->M (Bool)):(Int)->M (Bool):=λs=>match s with
 |Xx11=>do
  M.ite (decide (Xx11<(Cc12.size:Int))) (do
   let Xx18<-ixS Cc12 Xx11
   let Xx19<-Jz Xx18
   let Xx20<-M.ite (!Xx19) (do
    let Xx21<-ixS Cc12 Xx11
    let Xx22<-M.ite (decide (Xx21<48)) (do
     M.pure true
     ) (do
     let Xx23<-ixS Cc12 Xx11
     M.pure (decide (Xx23>57))
     )
    M.pure Xx22
    ) (do
    M.pure false
    )
   M.ite Xx20 (do
    M.pure false
    ) (do
    self1 (IntKind.wrap .i64 (Xx11+1))
    )
   ) (do
   M.pure true
   )
def U5 (x0:ByteArray):M (Bool):=do
 let Xx4<-M.ite (sEq x0 ByteArray.empty) (do
  M.pure true
  ) (do
  M.pure (decide ((x0.size:Int)>24))
  )
 let Xx5<-M.ite Xx4 (do
  M.pure true
  ) (do
  let Xx6<-ixS x0 0
  let Xx7<-Jz Xx6
  M.pure (!Xx7)
  )
 M.ite Xx5 (do
  M.pure false
  ) (do
  M.loop (XR x0) 0
  )
theorem KE9 (x0:ByteArray):KY Tryz.prog 55 #[.string x0] (λ(r:Bool)=>.bool r) (U5 x0):=
 KG [KCi] [] [.B] [(0,.S x0)] (.q .o (.q .o (.q (.q .o (.b (.l [(0,.S)] [(3,.I .i64)] (λ(t:ByteArray)=>XR t) (λ_=>.o)))) .o))) Tryz.func55 rfl rfl ⟨rfl,trivial⟩ rfl (by kernel_rfl) (by kernel_rfl)
noncomputable def zI:CalleeS Tryz.prog:=mkC KDF KDY [.S] [.B] (λ(t:ByteArray)=>U5 t) (λ(t:ByteArray)=>KE9 t)
def XS (Cc5:Int) (self1:(Int)->M (Bool)):(Int)->M (Bool):=λs=>match s with
 |Xx4=>do
  M.ite (decide (Xx4<11)) (do
   let Xx11<-ixS (⟨#[46,40,41,44,91,93,123,125,58,61,59]⟩:ByteArray) Xx4
   M.ite (Xx11==Cc5) (do
    M.pure true
    ) (do
    self1 (IntKind.wrap .i64 (Xx4+1))
    )
   ) (do
   M.pure false
   )
def U6 (x0:Int):M (Bool):=do
 M.loop (XS x0) 0
theorem KFA (x0:Int):KY Tryz.prog 56 #[.int .u8 x0] (λ(r:Bool)=>.bool r) (U6 x0):=
 KG [] [] [.B] [(0,.I .u8 x0)] (.q .o (.q (.q .o (.b (.l [(0,.I .u8)] [(3,.I .i64)] (λ(t:Int)=>XS t) (λ_=>.o)))) .o)) Tryz.func56 rfl rfl ⟨rfl,trivial⟩ rfl (by kernel_rfl) (by kernel_rfl)
noncomputable def zJ:CalleeS Tryz.prog:=mkC KDJ KDc [.I .u8] [.B] (λ(t:Int)=>U6 t) (λ(t:Int)=>KFA t)
def Ze (Cc5:Addr) (Xx4:Bool):M (Int):=do
 let Xx8<-M.ite (!Xx4) (do
  M.pure true
  ) (do
  let Xx9<-ldI .i64 ((Cc5).add 3)
  M.pure (decide (Xx9<0))
  )
 M.ite Xx8 (do
  M.pure 150
  ) (do
  M.pure 0
  )
def Ua (x0:Ea):M (Int):=do
 let Xx2<-mkB KL x0
 let Xx13<-ldI .i64 ((Xx2).add 0)
 M.ite (Xx13==1) (do
  let Xx15<-ldS ((Xx2).add 1)
  let Xx16<-U5 Xx15
  let Xx17<-M.ite Xx16 (do
   let Xx18<-ldI .i64 ((Xx2).add 2)
   M.pure (Xx18==0)
   ) (do
   M.pure false
   )
  Ze Xx2 Xx17
  ) (do
  M.ite (Xx13==2) (do
   let Xx20<-ldS ((Xx2).add 1)
   Ze Xx2 (sEq Xx20 ByteArray.empty)
   ) (do
   M.ite (Xx13==3) (do
    let Xx22<-ldS ((Xx2).add 1)
    let Xx23<-M.ite (decide ((Xx22.size:Int)<=128)) (do
     let Xx24<-ldI .i64 ((Xx2).add 2)
     M.pure (Xx24==0)
     ) (do
     M.pure false
     )
    Ze Xx2 Xx23
    ) (do
    M.ite (Xx13==4) (do
     let Xx26<-ldS ((Xx2).add 1)
     let Xx27<-M.ite ((Xx26.size:Int)==1) (do
      let Xx28<-ldS ((Xx2).add 1)
      let Xx29<-ixS Xx28 0
      let Xx30<-U6 Xx29
      M.pure Xx30
      ) (do
      M.pure false
      )
     let Xx31<-M.ite Xx27 (do
      let Xx32<-ldI .i64 ((Xx2).add 2)
      M.pure (Xx32==0)
      ) (do
      M.pure false
      )
     Ze Xx2 Xx31
     ) (do
     Ze Xx2 false
     )
    )
   )
  )
theorem KDm (x0:Ea):KY Tryz.prog 23 #[.agg x0] (λ(r:Int)=>.int .i64 r) (Ua x0):=
 KG [zI,zJ] [] [.I .i64] [(0,.G x0)] (.q .o (.q .o (.q .o (.j [(1,.A),(3,.B)] (λ(t:Addr×Bool)=>Ze t.1 t.2) .o)))) Tryz.func23 rfl rfl ⟨rfl,trivial⟩ rfl (by kernel_rfl) (by kernel_rfl)
noncomputable def qO:CalleeS Tryz.prog:=mkC KB7 KCV [.G] [.I .i64] (λ(t:Ea)=>Ua t) (λ(t:Ea)=>KDm t)
def J0 (x0:Int):M (Bool):=do
 let Xx3<-M.ite (decide (x0>=97)) (do
  M.pure (decide (x0<=122))
  ) (do
  M.pure false
  )
 let Xx4<-M.ite Xx3 (do
  M.pure true
  ) (do
  let Xx5<-M.ite (decide (x0>=65)) (do
   M.pure (decide (x0<=90))
   ) (do
   M.pure false
   )
  M.pure Xx5
  )
 let Xx6<-M.ite Xx4 (do
  M.pure true
  ) (do
  M.pure (x0==95)
  )
 M.pure Xx6
theorem KCj (x0:Int):KY Tryz.prog 94 #[.int .u8 x0] (λ(r:Bool)=>.bool r) (J0 x0):=
 KG [] [] [.B] [(0,.I .u8 x0)] .o Tryz.func94 rfl rfl ⟨rfl,trivial⟩ rfl (by kernel_rfl) (by kernel_rfl)
noncomputable def Nj:CalleeS Tryz.prog:=mkC KA7 KBH [.I .u8] [.B] (λ(t:Int)=>J0 t) (λ(t:Int)=>KCj t)
def Vz (x0:Int):M (Bool):=do
 let Xx3<-M.ite (decide (x0>=48)) (do
  M.pure (decide (x0<=57))
  ) (do
  M.pure false
  )
 M.pure Xx3
theorem KDn (x0:Int):KY Tryz.prog 127 #[.int .u8 x0] (λ(r:Bool)=>.bool r) (Vz x0):=
 KG [] [] [.B] [(0,.I .u8 x0)] .o Tryz.func127 rfl rfl ⟨rfl,trivial⟩ rfl (by kernel_rfl) (by kernel_rfl)
noncomputable def KDo:CalleeS Tryz.prog:=mkC KB8 KCW [.I .u8] [.B] (λ(t:Int)=>Vz t) (λ(t:Int)=>KDn t)
def XT (Cc5:ByteArray) (self1:(Int)->M (Int)):(Int)->M (Int):=λs=>match s with
 |Xx4=>do
  let Xx9<-M.ite (decide (Xx4<(Cc5.size:Int))) (do
   let Xx10<-ixS Cc5 Xx4
   let Xx11<-J0 Xx10
   let Xx12<-M.ite Xx11 (do
    M.pure true
    ) (do
    let Xx13<-ixS Cc5 Xx4
    let Xx14<-Vz Xx13
    M.pure Xx14
    )
   M.pure Xx12
   ) (do
   M.pure false
   )
  M.ite Xx9 (do
   self1 (IntKind.wrap .i64 (Xx4+1))
   ) (do
   M.pure Xx4
   )
def U7 (x0:ByteArray):M (Int):=do
 M.loop (XT x0) 0
theorem KFB (x0:ByteArray):KY Tryz.prog 95 #[.string x0] (λ(r:Int)=>.int .i64 r) (U7 x0):=
 KG [KDo,Nj] [] [.I .i64] [(0,.S x0)] (.q .o (.q .o (.q (.b (.l [(0,.S)] [(3,.I .i64)] (λ(t:ByteArray)=>XT t) (λ_=>.o))) .o))) Tryz.func95 rfl rfl ⟨rfl,trivial⟩ rfl (by kernel_rfl) (by kernel_rfl)
noncomputable def KFC:CalleeS Tryz.prog:=mkC KDK KDd [.S] [.I .i64] (λ(t:ByteArray)=>U7 t) (λ(t:ByteArray)=>KFB t)
def VI (self1:(Int)->M (Int)) (Xx14:Int):M (Int):=do
 self1 (IntKind.wrap .i64 (Xx14+1))
def YP (Cc10:ByteArray) (self1:(Int)->M (Int)):(Int)->M (Int):=λs=>match s with
 |Xx9=>do
  M.ite (decide (Xx9<(Cc10.size:Int))) (do
   let Xx18<-ixS Cc10 Xx9
   M.ite (Xx18==92) (do
    VI self1 (IntKind.wrap .i64 (Xx9+1))
    ) (do
    let Xx21<-ixS Cc10 Xx9
    M.ite (Xx21==39) (do
     M.pure (IntKind.wrap .i64 (Xx9+1))
     ) (do
     VI self1 Xx9
     )
    )
   ) (do
   M.pure 0
   )
def VJ (x0:ByteArray):M (Int):=do
 let Xx4<-M.ite ((x0.size:Int)==0) (do
  M.pure true
  ) (do
  let Xx5<-ixS x0 0
  M.pure (Xx5 !=39)
  )
 M.ite Xx4 (do
  M.pure 0
  ) (do
  M.loop (YP x0) 1
  )
theorem KCk (x0:ByteArray):KY Tryz.prog 96 #[.string x0] (λ(r:Int)=>.int .i64 r) (VJ x0):=
 KG [] [] [.I .i64] [(0,.S x0)] (.q .o (.q .o (.q (.q .o (.b (.l [(0,.S)] [(3,.I .i64)] (λ(t:ByteArray)=>YP t) (λself1=>.q .o (.q .o (.j [(0,.S),(3,.I .i64)] (λ(t:ByteArray×Int)=>VI self1 t.2) .o)))))) .o))) Tryz.func96 rfl rfl ⟨rfl,trivial⟩ rfl (by kernel_rfl) (by kernel_rfl)
noncomputable def KCl:CalleeS Tryz.prog:=mkC KA8 KBI [.S] [.I .i64] (λ(t:ByteArray)=>VJ t) (λ(t:ByteArray)=>KCk t)
def Zk (x0:Int) (x1:Int):M (Int):=do
 M.ite (decide (x0<x1)) (do
  M.pure (-1)
  ) (do
  M.ite (decide (x0>x1)) (do
   M.pure 1
   ) (do
   M.pure 0
   )
  )
theorem KGH (x0:Int) (x1:Int):KY Tryz.prog 117 #[.int .i64 x0,.int .i64 x1] (λ(r:Int)=>.int .i64 r) (Zk x0 x1):=
 KG [] [] [.I .i64] [(0,.I .i64 x0),(1,.I .i64 x1)] .o Tryz.func117 rfl rfl ⟨rfl,rfl,trivial⟩ rfl (by kernel_rfl) (by kernel_rfl)
noncomputable def zi:CalleeS Tryz.prog:=mkC KEp KE3 [.I .i64,.I .i64] [.I .i64] (λ(t:Int×Int)=>Zk t.1 t.2) (λ(t:Int×Int)=>KGH t.1 t.2)
def XU (Cc5:ByteArray) (Cc6:ByteArray) (self1:(Int)->M (Int)):(Int)->M (Int):=λs=>match s with
 |Xx4=>do
  let Xx10<-M.ite (decide (Xx4<(Cc5.size:Int))) (do
   M.pure (decide (Xx4<(Cc6.size:Int)))
   ) (do
   M.pure false
   )
  M.ite Xx10 (do
   let Xx13<-ixS Cc5 Xx4
   let Xx14<-ixS Cc6 Xx4
   M.ite (Xx13 !=Xx14) (do
    let Xx16<-ixS Cc5 Xx4
    let Xx17<-ixS Cc6 Xx4
    let Xx18<-Zk (IntKind.wrap .i64 Xx16) (IntKind.wrap .i64 Xx17)
    M.pure Xx18
    ) (do
    self1 (IntKind.wrap .i64 (Xx4+1))
    )
   ) (do
   let Xx20<-Zk (Cc5.size:Int) (Cc6.size:Int)
   M.pure Xx20
   )
def Wn (x0:ByteArray) (x1:ByteArray):M (Int):=do
 M.loop (XU x0 x1) 0
theorem KFD (x0:ByteArray) (x1:ByteArray):KY Tryz.prog 118 #[.string x0,.string x1] (λ(r:Int)=>.int .i64 r) (Wn x0 x1):=
 KG [zi] [] [.I .i64] [(0,.S x0),(1,.S x1)] (.q .o (.q (.q .o (.b (.l [(0,.S),(1,.S)] [(5,.I .i64)] (λ(t:ByteArray×ByteArray)=>XU t.1 t.2) (λ_=>.q .o (.q (.b (.q (.r [0,0,3,0,0,24,36] [0,0,3,0,0,24,36] [0,0,3,0,0,24,63] (.pu 0 (.pu 1 (.pu 2 (.pu 3 (.pu 4 (.pu 5 (.pu 6 (.st [0,1,2,3,4,5,6] .dn))))))))) (.q (.q (.r [0,0,3,4,0,0,48,64,136,511] [0,0,3,4,0,0,48,64,136,256] [0,0,3,7,0,0,48,112,255,511] (.pu 0 (.pu 1 (.pu 2 (.pu 3 (.pu 4 (.pu 5 (.pu 6 (.pu 7 (.st [0,1,2,3,4,5,6,7,8,9] (.on 8 (.pu 9 (.nx .dn))))))))))))) .o) .o))) .o))))) .o)) Tryz.func118 rfl rfl ⟨rfl,rfl,trivial⟩ rfl (by kernel_rfl) (by kernel_rfl)
noncomputable def KFE:CalleeS Tryz.prog:=mkC KDI KDb [.S,.S] [.I .i64] (λ(t:ByteArray×ByteArray)=>Wn t.1 t.2) (λ(t:ByteArray×ByteArray)=>KFD t.1 t.2)
def W8 (Cc28:Addr) (Cc29:Addr) (self1:(Int)->M (Int)):(Int)->M (Int):=λs=>match s with
 |Xx27=>do
  let Xx33<-ldL ((Cc28).add 3)
  let Xx34<-M.ite (decide (Xx27<(Xx33.len:Int))) (do
   let Xx35<-ldL ((Cc29).add 3)
   M.pure (decide (Xx27<(Xx35.len:Int)))
   ) (do
   M.pure false
   )
  M.ite Xx34 (do
   let Xx38<-ldL ((Cc28).add 3)
   let Xx39<-ixL Xx38 Xx27 4
   let Xx40<-ldG 4 Xx39
   let Xx41<-ldL ((Cc29).add 3)
   let Xx42<-ixL Xx41 Xx27 4
   let Xx43<-ldG 4 Xx42
   let Xx44<-W5 Tryz.prog Ux #[.agg Xx40,.agg Xx43] (λr:Int=>.int .i64 r)
   M.ite (Xx44 !=0) (do
    M.pure Xx44
    ) (do
    self1 (IntKind.wrap .i64 (Xx27+1))
    )
   ) (do
   let Xx48<-ldL ((Cc28).add 3)
   let Xx49<-ldL ((Cc29).add 3)
   let Xx50<-Zk (Xx48.len:Int) (Xx49.len:Int)
   M.pure Xx50
   )
def Z4 (x0:Ea) (x1:Ea):M (Int):=do
 let Xx2<-mkB KB x0
 let Xx3<-mkB KB x1
 let Xx6<-ldI .i64 ((Xx2).add 0)
 let Xx7<-ldI .i64 ((Xx3).add 0)
 let Xx8<-Zk Xx6 Xx7
 M.ite (Xx8 !=0) (do
  M.pure Xx8
  ) (do
  let Xx13<-ldI .i64 ((Xx2).add 1)
  let Xx14<-ldI .i64 ((Xx3).add 1)
  let Xx15<-Zk Xx13 Xx14
  M.ite (Xx15 !=0) (do
   M.pure Xx15
   ) (do
   let Xx20<-ldS ((Xx2).add 2)
   let Xx21<-ldS ((Xx3).add 2)
   let Xx22<-Wn Xx20 Xx21
   M.ite (Xx22 !=0) (do
    M.pure Xx22
    ) (do
    M.loop (W8 Xx2 Xx3) 0
    )
   )
  )
theorem Gv (x0:Ea) (x1:Ea):KY Tryz.prog 74 #[.agg x0,.agg x1] (λ(r:Int)=>.int .i64 r) (Z4 x0 x1):=
 KG [zi,KFE,mkC Ux GO [.G,.G] [.I .i64] (λ(t:Ea×Ea)=>W5 Tryz.prog Ux #[.agg t.1,.agg t.2] (λr:Int=>.int .i64 r)) (λ(t:Ea×Ea)=>Z3)] [] [.I .i64] [(0,.G x0),(1,.G x1)] (.q .o (.q .o (.q .o (.q .o (.q (.q .o (.b (.l [(2,.A),(3,.A)] [(8,.I .i64)] (λ(t:Addr×Addr)=>W8 t.1 t.2) (λ_=>.q .o (.q (.b (.q (.r [0,1,0,6,8,0,32,0,192,256,528,2047] [0,1,0,6,8,0,32,0,192,256,528,1024] [0,1,0,7,15,0,32,0,224,480,1023,2047] (.pu 0 (.pu 2 (.pu 5 (.pu 7 (.pu 1 (.pu 3 (.pu 4 (.pu 6 (.pu 8 (.pu 9 (.st [10,11] (.on 10 (.pu 11 (.nx .dn))))))))))))))) .o)) .o))))) .o))))) Tryz.func74 rfl rfl ⟨rfl,rfl,trivial⟩ rfl (by kernel_rfl) (by kernel_rfl)
noncomputable def Gy:CalleeS Tryz.prog:=mkC Ux GO [.G,.G] [.I .i64] (λ(t:Ea×Ea)=>Z4 t.1 t.2) (λ(t:Ea×Ea)=>Gv t.1 t.2)
def Yl (Cc5:Sl) (self1:(Int)->M (Bool)):(Int)->M (Bool):=λs=>match s with
 |Xx4=>do
  M.ite (decide (Xx4<(Cc5.len:Int))) (do
   let Xx11<-ixL Cc5 (IntKind.wrap .i64 (Xx4 - 2)) 4
   let Xx12<-ixL Cc5 Xx4 4
   let Xx13<-ldG 4 Xx11
   let Xx14<-ldG 4 Xx12
   let Xx15<-Z4 Xx13 Xx14
   M.ite (decide (Xx15>=0)) (do
    M.pure false
    ) (do
    self1 (IntKind.wrap .i64 (Xx4+2))
    )
   ) (do
   M.pure true
   )
def V7 (x0:Sl):M (Bool):=do
 M.loop (Yl x0) 2
theorem KDp (x0:Sl):KY Tryz.prog 110 #[(x0:Sl).v] (λ(r:Bool)=>.bool r) (V7 x0):=
 KG [Gy] [] [.B] [(0,.L x0)] (.q .o (.q (.q .o (.b (.l [(0,.L)] [(3,.I .i64)] (λ(t:Sl)=>Yl t) (λ_=>.q .o (.q (.b (.q (.r [0,0,2,5,8,0,0,96,128,272,512] [0,0,2,5,8,0,0,96,128,272,512] [0,0,2,7,15,0,0,96,224,511,1023] (.pu 0 (.pu 1 (.pu 2 (.pu 3 (.pu 5 (.pu 6 (.pu 7 (.pu 4 (.pu 8 (.st [9,10] (.on 9 (.pu 10 (.nx .dn)))))))))))))) .o)) .o))))) .o)) Tryz.func110 rfl rfl ⟨rfl,trivial⟩ rfl (by kernel_rfl) (by kernel_rfl)
noncomputable def KDq:CalleeS Tryz.prog:=mkC KB6 KCT [.L] [.B] (λ(t:Sl)=>V7 t) (λ(t:Sl)=>KDp t)
def VK (Cc24:Int) (Cc25:Addr) (Cc26:Int) (Xx23:Bool):M (Bool):=do
 M.ite Xx23 (do
  let Xx28<-ldS ((Cc25).add 2)
  let Xx29<-M.ite (sEq Xx28 ByteArray.empty) (do
   let Xx30<-ldL ((Cc25).add 3)
   M.pure ((Xx30.len:Int)==0)
   ) (do
   M.pure false
   )
  let Xx31<-M.ite Xx29 (do
   let Xx32<-ldI .i64 ((Cc25).add 1)
   M.pure (decide (Xx32>=1))
   ) (do
   M.pure false
   )
  let Xx33<-M.ite Xx31 (do
   let Xx34<-ldI .i64 ((Cc25).add 1)
   M.pure (decide (Xx34<=281474976710656))
   ) (do
   M.pure false
   )
  M.pure Xx33
  ) (do
  M.ite (Cc26==2) (do
   let Xx37<-ldI .i64 ((Cc25).add 1)
   let Xx38<-M.ite (Xx37==0) (do
    let Xx39<-ldL ((Cc25).add 3)
    M.pure ((Xx39.len:Int)==0)
    ) (do
    M.pure false
    )
   let Xx40<-M.ite Xx38 (do
    let Xx41<-ldS ((Cc25).add 2)
    M.pure (decide ((Xx41.size:Int)<=128))
    ) (do
    M.pure false
    )
   M.pure Xx40
   ) (do
   M.ite (Cc26==4) (do
    let Xx44<-ldI .i64 ((Cc25).add 1)
    let Xx45<-M.ite (Xx44==0) (do
     let Xx46<-ldS ((Cc25).add 2)
     M.pure (sEq Xx46 ByteArray.empty)
     ) (do
     M.pure false
     )
    let Xx47<-M.ite Xx45 (do
     let Xx48<-ldL ((Cc25).add 3)
     M.pure (decide ((Xx48.len:Int)<=256))
     ) (do
     M.pure false
     )
    let Xx49<-M.ite Xx47 (do
     let Xx50<-ldL ((Cc25).add 3)
     let Xx51<-W5 Tryz.prog VF #[(Xx50:Sl).v,.int .i64 Cc24] (λr:Bool=>.bool r)
     M.pure Xx51
     ) (do
     M.pure false
     )
    M.pure Xx49
    ) (do
    M.ite (Cc26==5) (do
     let Xx54<-ldI .i64 ((Cc25).add 1)
     let Xx55<-M.ite (Xx54==0) (do
      let Xx56<-ldS ((Cc25).add 2)
      M.pure (sEq Xx56 ByteArray.empty)
      ) (do
      M.pure false
      )
     let Xx57<-M.ite Xx55 (do
      let Xx58<-ldL ((Cc25).add 3)
      M.pure (decide ((Xx58.len:Int)<=512))
      ) (do
      M.pure false
      )
     let Xx59<-M.ite Xx57 (do
      let Xx60<-ldL ((Cc25).add 3)
      M.pure ((Int.tmod (Xx60.len:Int) 2)==0)
      ) (do
      M.pure false
      )
     let Xx61<-M.ite Xx59 (do
      let Xx62<-ldL ((Cc25).add 3)
      let Xx63<-W5 Tryz.prog VF #[(Xx62:Sl).v,.int .i64 Cc24] (λr:Bool=>.bool r)
      M.pure Xx63
      ) (do
      M.pure false
      )
     let Xx64<-M.ite Xx61 (do
      let Xx65<-ldL ((Cc25).add 3)
      let Xx66<-V7 Xx65
      M.pure Xx66
      ) (do
      M.pure false
      )
     M.pure Xx64
     ) (do
     M.pure false
     )
    )
   )
  )
def Uk (x0:Ea) (x1:Int):M (Bool):=do
 let Xx2<-mkB KB x0
 M.ite (decide (x1>=8)) (do
  M.pure false
  ) (do
  let Xx8<-ldI .i64 ((Xx2).add 0)
  M.ite (Xx8==1) (do
   let Xx11<-ldS ((Xx2).add 2)
   let Xx12<-M.ite (sEq Xx11 ByteArray.empty) (do
    let Xx13<-ldL ((Xx2).add 3)
    M.pure ((Xx13.len:Int)==0)
    ) (do
    M.pure false
    )
   M.pure Xx12
   ) (do
   M.ite (Xx8==3) (do
    let Xx16<-ldS ((Xx2).add 2)
    let Xx17<-M.ite (sEq Xx16 ByteArray.empty) (do
     let Xx18<-ldL ((Xx2).add 3)
     M.pure ((Xx18.len:Int)==0)
     ) (do
     M.pure false
     )
    let Xx19<-M.ite Xx17 (do
     let Xx20<-ldI .i64 ((Xx2).add 1)
     let Xx21<-M.ite (Xx20==0) (do
      M.pure true
      ) (do
      let Xx22<-ldI .i64 ((Xx2).add 1)
      M.pure (Xx22==1)
      )
     M.pure Xx21
     ) (do
     M.pure false
     )
    M.pure Xx19
    ) (do
    M.ite (Xx8==6) (do
     VK x1 Xx2 Xx8 (Xx8==6)
     ) (do
     VK x1 Xx2 Xx8 (Xx8==7)
     )
    )
   )
  )
theorem zj (x0:Ea) (x1:Int):KY Tryz.prog 70 #[.agg x0,.int .i64 x1] (λ(r:Bool)=>.bool r) (Uk x0 x1):=
 KG [mkC VF KE1 [.L,.I .i64] [.B] (λ(t:Sl×Int)=>W5 Tryz.prog VF #[(t.1:Sl).v,.int .i64 t.2] (λr:Bool=>.bool r)) (λ(t:Sl×Int)=>Z3),KDq] [] [.B] [(0,.G x0),(1,.I .i64 x1)] (.q .o (.q .o (.q (.q .o (.b (.q .o (.q .o (.q .o (.q .o (.q .o (.j [(1,.I .i64),(2,.A),(8,.I .i64),(41,.B)] (λ(t:Int×Addr×Int×Bool)=>VK t.1 t.2.1 t.2.2.1 t.2.2.2) .o)))))))) .o))) Tryz.func70 rfl rfl ⟨rfl,rfl,trivial⟩ rfl (by kernel_rfl) (by kernel_rfl)
noncomputable def KGI:CalleeS Tryz.prog:=mkC YD zH [.G,.I .i64] [.B] (λ(t:Ea×Int)=>Uk t.1 t.2) (λ(t:Ea×Int)=>zj t.1 t.2)
def Ub (x0:Ea):M (Int):=do
 let Xx2<-mkB KB x0
 let Xx5<-ldG 4 Xx2
 let Xx6<-Uk Xx5 0
 M.ite (!Xx6) (do
  M.pure 20
  ) (do
  M.pure 0
  )
theorem KDr (x0:Ea):KY Tryz.prog 33 #[.agg x0] (λ(r:Int)=>.int .i64 r) (Ub x0):=
 KG [KGI] [] [.I .i64] [(0,.G x0)] .o Tryz.func33 rfl rfl ⟨rfl,trivial⟩ rfl (by kernel_rfl) (by kernel_rfl)
noncomputable def qP:CalleeS Tryz.prog:=mkC KB2 KCP [.G] [.I .i64] (λ(t:Ea)=>Ub t) (λ(t:Ea)=>KDr t)
def V8 (x0:Int):M (Ea):=do
 let Xx2<-mkB KB (#[.int .i64 0,.int .i64 0,.string ByteArray.empty,.slice none 0 0]:Ea)
 M.need ((#[.int .i64 1,.int .i64 x0,.string ByteArray.empty,.slice none 0 0]:Ea).size=4)
 stG Xx2 (#[.int .i64 1,.int .i64 x0,.string ByteArray.empty,.slice none 0 0]:Ea)
 let Rr5<-ldG 4 Xx2
 M.pure Rr5
theorem KGJ (x0:Int):KY Tryz.prog 57 #[.int .i64 x0] (λ(r:Ea)=>.agg r) (V8 x0):=
 KG [] [] [.G] [(0,.I .i64 x0)] .o Tryz.func57 rfl rfl ⟨rfl,trivial⟩ rfl (by kernel_rfl) (by kernel_rfl)
noncomputable def zk:CalleeS Tryz.prog:=mkC KEm KEz [.I .i64] [.G] (λ(t:Int)=>V8 t) (λ(t:Int)=>KGJ t)
def V9 (x0:ByteArray):M (Ea):=do
 let Xx2<-mkB KB (#[.int .i64 0,.int .i64 0,.string ByteArray.empty,.slice none 0 0]:Ea)
 M.need ((#[.int .i64 2,.int .i64 0,.string x0,.slice none 0 0]:Ea).size=4)
 stG Xx2 (#[.int .i64 2,.int .i64 0,.string x0,.slice none 0 0]:Ea)
 let Rr5<-ldG 4 Xx2
 M.pure Rr5
theorem KGK (x0:ByteArray):KY Tryz.prog 58 #[.string x0] (λ(r:Ea)=>.agg r) (V9 x0):=
 KG [] [] [.G] [(0,.S x0)] .o Tryz.func58 rfl rfl ⟨rfl,trivial⟩ rfl (by kernel_rfl) (by kernel_rfl)
noncomputable def zl:CalleeS Tryz.prog:=mkC KEn KE0 [.S] [.G] (λ(t:ByteArray)=>V9 t) (λ(t:ByteArray)=>KGK t)
def KO (x0:Option Addr) (x1:Int):M (Unit):=do
 let Xx2<-nilP x0
 let Xx3<-ldI .i64 ((Xx2).add 2)
 M.ite (decide (Xx3<0)) (do
  let Xx4<-nilP x0
  stV ((Xx4).add 2) (.int .i64 x1)
  M.pure ()
  ) (do
  M.pure ()
  )
theorem zU (x0:Option Addr) (x1:Int):KY Tryz.prog 129 #[.pointer x0,.int .i64 x1] (λ(r:Unit)=>.tuple #[]) (KO x0 x1):=
 KG [] [0,4,9] [] [(0,.P x0),(1,.I .i64 x1)] .o Tryz.func129 rfl rfl ⟨rfl,rfl,trivial⟩ rfl (by kernel_rfl) (by kernel_rfl)
noncomputable def ZZ:CalleeS Tryz.prog:=mkC qt qw [.P,.I .i64] [] (λ(t:Option Addr×Int)=>KO t.1 t.2) (λ(t:Option Addr×Int)=>zU t.1 t.2)
def Zq (Cc4:Option Addr) (Xx3:Bool):M (Int):=do
 M.ite Xx3 (do
  M.pure 0
  ) (do
  let Xx7<-nilP Cc4
  let Xx8<-nilP Cc4
  let Xx9<-ldS ((Xx7).add 0)
  let Xx10<-ldI .i64 ((Xx8).add 1)
  let Xx11<-ixS Xx9 Xx10
  M.pure Xx11
  )
def KP (x0:Option Addr):M (Int):=do
 let Xx12<-nilP x0
 let Xx13<-ldI .i64 ((Xx12).add 2)
 M.ite (decide (Xx13>=0)) (do
  Zq x0 true
  ) (do
  let Xx15<-nilP x0
  let Xx16<-nilP x0
  let Xx17<-ldI .i64 ((Xx15).add 1)
  let Xx18<-ldS ((Xx16).add 0)
  Zq x0 (decide (Xx17>=(Xx18.size:Int)))
  )
theorem zV (x0:Option Addr):KY Tryz.prog 181 #[.pointer x0] (λ(r:Int)=>.int .u8 r) (KP x0):=
 KG [] [0,3,9,13,20,24] [.I .u8] [(0,.P x0)] (.q .o (.q (.q (.r [0,1,2,4,8,16,32,96,160,288,32,1056,2080,4128,8224,16928,32800] [0,1,2,4,8,16,32,96,160,288,32,1056,2080,4128,8224,16928,32800] [0,1,3,7,15,31,63,127,255,511,63,1087,3135,7231,15423,32767,65535] (.pu 0 (.pu 1 (.pu 2 (.pu 3 (.pu 4 (.pu 5 (.g 5 (.of 6 (.of 7 (.of 8 (.of 9 (.of 10 (.of 11 (.of 12 (.of 13 (.of 14 (.of 15 (.pu 16 (.st [4,5,6,7,8,9,10,11,12,13,14,15,16] .dn)))))))))))) (.pu 6 (.pu 7 (.pu 8 (.pu 10 (.pu 11 (.pu 12 (.pu 9 (.pu 13 (.pu 14 (.pu 15 (.pu 16 (.st [15,16] .dn)))))))))))))))))))) (.j [(0,.P),(19,.B)] (λ(t:Option Addr×Bool)=>Zq t.1 t.2) .o)) (.q (.r [0,1,2,4,0,16,32,64,136,511] [0,1,2,4,0,16,32,64,136,256] [0,1,3,7,0,16,48,112,255,511] (.pu 0 (.pu 1 (.pu 2 (.pu 4 (.pu 5 (.pu 6 (.pu 3 (.pu 7 (.pu 8 (.pu 9 (.st [8,9] .dn)))))))))))) .o))) Tryz.func181 rfl rfl ⟨rfl,trivial⟩ rfl (by kernel_rfl) (by kernel_rfl)
noncomputable def Za:CalleeS Tryz.prog:=mkC qu qy [.P] [.I .u8] (λ(t:Option Addr)=>KP t) (λ(t:Option Addr)=>zV t)
def Zo (x0:Int):M (Bool):=do
 let Xx3<-M.ite (decide (x0>=48)) (do
  M.pure (decide (x0<=57))
  ) (do
  M.pure false
  )
 M.pure Xx3
theorem KDs (x0:Int):KY Tryz.prog 182 #[.int .u8 x0] (λ(r:Bool)=>.bool r) (Zo x0):=
 KG [] [] [.B] [(0,.I .u8 x0)] .o Tryz.func182 rfl rfl ⟨rfl,trivial⟩ rfl (by kernel_rfl) (by kernel_rfl)
noncomputable def XV:CalleeS Tryz.prog:=mkC KB5 KCS [.I .u8] [.B] (λ(t:Int)=>Zo t) (λ(t:Int)=>KDs t)
def VL (x0:Bool) (x1:Int):M (Int):=do
 M.ite x0 (do
  M.pure (IntKind.wrap .i64 (IntKind.wrap .u64 (0 - x1)))
  ) (do
  M.pure (IntKind.wrap .i64 x1)
  )
theorem KCm (x0:Bool) (x1:Int):KY Tryz.prog 229 #[.bool x0,.int .u64 x1] (λ(r:Int)=>.int .i64 r) (VL x0 x1):=
 KG [] [] [.I .i64] [(0,.B x0),(1,.I .u64 x1)] .o Tryz.func229 rfl rfl ⟨rfl,rfl,trivial⟩ rfl (by kernel_rfl) (by kernel_rfl)
noncomputable def KCn:CalleeS Tryz.prog:=mkC KA5 KBF [.B,.I .u64] [.I .i64] (λ(t:Bool×Int)=>VL t.1 t.2) (λ(t:Bool×Int)=>KCm t.1 t.2)
def Ym (Cc38:Bool) (Cc39:ByteArray) (Cc40:Int) (self2:(Int×Int)->M (Int×Int)):(Int×Int)->M (Int×Int):=λs=>match s with
 |(Xx36,Xx37)=>do
  M.ite (decide (Xx37<(Cc39.size:Int))) (do
   let Xx46<-ixS Cc39 Xx37
   M.ite (decide (Xx36>(IntKind.wrap .u64 (Int.tdiv (IntKind.wrap .u64 (Cc40 - (IntKind.wrap .u64 (IntKind.wrap .u8 (Xx46 - 48))))) 10)))) (do
    M.pure (0,7)
    ) (do
    self2 (IntKind.wrap .u64 ((IntKind.wrap .u64 (Xx36*10))+(IntKind.wrap .u64 (IntKind.wrap .u8 (Xx46 - 48)))),IntKind.wrap .i64 (Xx37+1))
    )
   ) (do
   let Xx51<-VL Cc38 Xx36
   M.pure (Xx51,0)
   )
def UI (Cc31:Bool) (Cc32:ByteArray) (Xx30:Int):M (Int×Int):=do
 M.loop (Ym Cc31 Cc32 Xx30) (0,0)
def Yn (Cc18:Bool) (Cc19:ByteArray) (self1:(Int)->M (Int×Int)):(Int)->M (Int×Int):=λs=>match s with
 |Xx17=>do
  M.ite (decide (Xx17<(Cc19.size:Int))) (do
   let Xx25<-ixS Cc19 Xx17
   let Xx26<-M.ite (decide (Xx25<48)) (do
    M.pure true
    ) (do
    let Xx27<-ixS Cc19 Xx17
    M.pure (decide (Xx27>57))
    )
   M.ite Xx26 (do
    M.pure (0,10)
    ) (do
    self1 (IntKind.wrap .i64 (Xx17+1))
    )
   ) (do
   M.ite (!Cc18) (do
    UI Cc18 Cc19 (IntKind.wrap .u64 (9223372036854775808 - 1))
    ) (do
    UI Cc18 Cc19 9223372036854775808
    )
   )
def UJ (Cc7:Bool) (Xx6:ByteArray):M (Int×Int):=do
 let Xx10<-M.ite (sEq Xx6 ByteArray.empty) (do
  M.pure true
  ) (do
  let Xx11<-ixS Xx6 0
  let Xx12<-M.ite (Xx11==48) (do
   let Xx13<-M.ite (decide ((Xx6.size:Int)>1)) (do
    M.pure true
    ) (do
    M.pure Cc7
    )
   M.pure Xx13
   ) (do
   M.pure false
   )
  M.pure Xx12
  )
 M.ite Xx10 (do
  M.pure (0,10)
  ) (do
  M.loop (Yn Cc7 Xx6) 0
  )
def Uc (x0:ByteArray):M (Int×Int):=do
 let Xx3<-M.ite (decide ((x0.size:Int)>0)) (do
  let Xx4<-ixS x0 0
  M.pure (Xx4==45)
  ) (do
  M.pure false
  )
 M.ite Xx3 (do
  let Xx54<-slS x0 1 x0.size
  UJ Xx3 Xx54
  ) (do
  UJ Xx3 x0
  )
theorem KDt (x0:ByteArray):KY Tryz.prog 214 #[.string x0] (λ(r:Int×Int)=>.tuple #[.int .i64 r.1,.int .i64 r.2]) (Uc x0):=
 KG [KCn] [] [.I .i64,.I .i64] [(0,.S x0)] (.q .o (.q .o (.q .o (.q .o (.j [(4,.B),(5,.S)] (λ(t:Bool×ByteArray)=>UJ t.1 t.2) (.q .o (.q (.q .o (.b (.l [(4,.B),(5,.S)] [(6,.I .i64)] (λ(t:Bool×ByteArray)=>Yn t.1 t.2) (λ_=>.o)))) (.q .o (.q .o (.j [(4,.B),(5,.S),(7,.I .u64)] (λ(t:Bool×ByteArray×Int)=>UI t.1 t.2.1 t.2.2) (.q .o (.q (.q .o (.b (.l [(4,.B),(5,.S),(7,.I .u64)] [(8,.I .u64),(9,.I .i64)] (λ(t:Bool×ByteArray×Int)=>Ym t.1 t.2.1 t.2.2) (λ_=>.o)))) .o)))))))))))) Tryz.func214 rfl rfl ⟨rfl,trivial⟩ rfl (by kernel_rfl) (by kernel_rfl)
noncomputable def KDu:CalleeS Tryz.prog:=mkC KB1 KCO [.S] [.I .i64,.I .i64] (λ(t:ByteArray)=>Uc t) (λ(t:ByteArray)=>KDt t)
end Gx
namespace Gx
open Go
def UV (Cc35:Option Addr) (Cc36:Int) (self1:(Unit)->M (Int)):(Unit)->M (Int):=λs=>match s with
 |()=>do
  let Xx40<-KP Cc35
  let Xx41<-Zo Xx40
  M.ite Xx41 (do
   let Xx44<-nilP Cc35
   let Xx45<-nilP Cc35
   let Xx46<-ldS ((Xx44).add 0)
   let Xx47<-ldI .i64 ((Xx45).add 1)
   let Xx48<-slS Xx46 Cc36 (IntKind.wrap .i64 (Xx47+1))
   let Xx49<-Uc Xx48
   M.ite (Xx49.2 !=0) (do
    let Xx52<-nilP Cc35
    let Xx53<-ldI .i64 ((Xx52).add 1)
    let Xx54<-KO Cc35 Xx53
    M.pure 0
    ) (do
    let Xx56<-nilP Cc35
    let Xx57<-ldI .i64 ((Xx56).add 1)
    let Xx58<-nilP Cc35
    stV ((Xx58).add 1) (.int .i64 (IntKind.wrap .i64 (Xx57+1)))
    self1 ()
    )
   ) (do
   let Xx61<-nilP Cc35
   let Xx62<-nilP Cc35
   let Xx63<-ldS ((Xx61).add 0)
   let Xx64<-ldI .i64 ((Xx62).add 1)
   let Xx65<-slS Xx63 Cc36 Xx64
   let Xx66<-Uc Xx65
   M.pure Xx66.1
   )
def ZM (Cc5:Option Addr) (Cc6:Int):M (Int):=do
 let Xx9<-KP Cc5
 let Xx10<-Zo Xx9
 M.ite (!Xx10) (do
  let Xx12<-nilP Cc5
  let Xx13<-ldI .i64 ((Xx12).add 1)
  let Xx14<-KO Cc5 Xx13
  M.pure 0
  ) (do
  let Xx18<-KP Cc5
  M.ite (Xx18==48) (do
   let Xx21<-nilP Cc5
   let Xx22<-ldI .i64 ((Xx21).add 1)
   M.ite (decide (Xx22>Cc6)) (do
    let Xx24<-nilP Cc5
    let Xx25<-ldI .i64 ((Xx24).add 1)
    let Xx26<-KO Cc5 Xx25
    M.pure 0
    ) (do
    let Xx29<-nilP Cc5
    let Xx30<-ldI .i64 ((Xx29).add 1)
    let Xx31<-nilP Cc5
    stV ((Xx31).add 1) (.int .i64 (IntKind.wrap .i64 (Xx30+1)))
    M.pure 0
    )
   ) (do
   M.loop (UV Cc5 Cc6) ()
   )
  )
def ZD (x0:Option Addr) (x1:Bool):M (Int):=do
 let Xx3<-nilP x0
 let Xx4<-ldI .i64 ((Xx3).add 1)
 let Xx69<-M.ite x1 (do
  let Xx70<-KP x0
  M.pure (Xx70==45)
  ) (do
  M.pure false
  )
 M.ite Xx69 (do
  let Xx71<-nilP x0
  let Xx72<-ldI .i64 ((Xx71).add 1)
  let Xx73<-nilP x0
  stV ((Xx73).add 1) (.int .i64 (IntKind.wrap .i64 (Xx72+1)))
  ZM x0 Xx4
  ) (do
  ZM x0 Xx4
  )
theorem qQ (x0:Option Addr) (x1:Bool):KY Tryz.prog 183 #[.pointer x0,.bool x1] (λ(r:Int)=>.int .i64 r) (ZD x0 x1):=
 KG [ZZ,Za,XV,KDu] [0,10,16,20,27,31,32,37,40,46,47,52,59,63,68,79,80,85,93,98] [.I .i64] [(0,.P x0),(1,.B x1)] (.q .o (.q .o (.q .o (.j [(0,.P),(5,.I .i64)] (λ(t:Option Addr×Int)=>ZM t.1 t.2) (.q .o (.q .o (.q (.b (.l [(0,.P),(5,.I .i64)] [] (λ(t:Option Addr×Int)=>UV t.1 t.2) (λ_=>.q .o (.b (.q (.q (.r [0,1,2,4,0,0,32,64,128,256,536,1024,2048,4096,4096,16383,65535] [0,1,2,4,0,0,32,64,128,256,536,1024,2048,4096,4096,8192,16384] [0,1,3,7,0,0,32,96,224,480,1023,2047,4095,8191,8191,16383,65535] (.pu 0 (.pu 1 (.pu 2 (.pu 4 (.pu 5 (.pu 6 (.pu 7 (.pu 3 (.pu 8 (.pu 9 (.pu 10 (.st [10,11,12,13,14,15,16] (.on 11 (.pu 12 (.pu 13 (.pu 14 (.pu 15 (.pu 16 (.nx .dn)))))))))))))))))))) .o) .o))))) (.q (.r [0,1,2,4,0,0,32,64,128,280,512,1024,2048,2048,8191,32767] [0,1,2,4,0,0,32,64,128,280,512,1024,2048,2048,4096,8192] [0,1,3,7,0,0,32,96,224,511,1023,2047,4095,4095,8191,32767] (.pu 0 (.pu 1 (.pu 2 (.pu 4 (.pu 5 (.pu 6 (.pu 7 (.pu 3 (.pu 8 (.pu 9 (.st [9,10,11,12,13,14,15] (.on 10 (.pu 11 (.pu 12 (.pu 13 (.pu 14 (.pu 15 (.nx .dn))))))))))))))))))) .o)))))))) Tryz.func183 rfl rfl ⟨rfl,rfl,trivial⟩ rfl (by kernel_rfl) (by kernel_rfl)
noncomputable def qR:CalleeS Tryz.prog:=mkC Nq Nt [.P,.B] [.I .i64] (λ(t:Option Addr×Bool)=>ZD t.1 t.2) (λ(t:Option Addr×Bool)=>qQ t.1 t.2)
def ZI (self1:(Int)->M (Unit)) (Cc11:Option Addr) (Cc13:Int) (Xx10:Bool):M (Unit):=do
 M.ite Xx10 (do
  let Xx15<-nilP Cc11
  let Xx16<-ldI .i64 ((Xx15).add 1)
  let Xx17<-KO Cc11 Xx16
  M.pure ()
  ) (do
  let Xx18<-nilP Cc11
  let Xx19<-ldI .i64 ((Xx18).add 1)
  let Xx20<-nilP Cc11
  stV ((Xx20).add 1) (.int .i64 (IntKind.wrap .i64 (Xx19+1)))
  self1 (IntKind.wrap .i64 (Cc13+1))
  )
def JX (Cc3:Option Addr) (Cc4:ByteArray) (self1:(Int)->M (Unit)):(Int)->M (Unit):=λs=>match s with
 |Xx2=>do
  M.ite (decide (Xx2<(Cc4.size:Int))) (do
   let Xx22<-ixS Cc4 Xx2
   let Xx23<-KP Cc3
   M.ite (Xx23 !=Xx22) (do
    ZI self1 Cc3 Xx2 true
    ) (do
    let Xx25<-nilP Cc3
    let Xx26<-nilP Cc3
    let Xx27<-ldI .i64 ((Xx25).add 1)
    let Xx28<-ldS ((Xx26).add 0)
    ZI self1 Cc3 Xx2 (decide (Xx27>=(Xx28.size:Int)))
    )
   ) (do
   M.pure ()
   )
def KN (x0:Option Addr) (x1:ByteArray):M (Unit):=do
 M.loop (JX x0 x1) 0
theorem zW (x0:Option Addr) (x1:ByteArray):KY Tryz.prog 185 #[.pointer x0,.string x1] (λ(r:Unit)=>.tuple #[]) (KN x0 x1):=
 KG [ZZ,Za] [0,11,18,22,29,30,35] [] [(0,.P x0),(1,.S x1)] (.q .o (.b (.l [(0,.P),(1,.S)] [(4,.I .i64)] (λ(t:Option Addr×ByteArray)=>JX t.1 t.2) (λself1=>.q .o (.q (.b (.q (.q (.r [0,1,0,0,12,18,34,64,192,320,576,64,2112,4160,8256,16448,33856,65600] [0,1,0,0,12,18,32,64,192,320,576,64,2112,4160,8256,16448,33856,65600] [0,1,0,0,12,31,63,127,255,511,1023,127,2175,6271,14463,30847,65535,131071] (.pu 0 (.pu 2 (.pu 3 (.pu 4 (.st [0,1,2,3,4,5,6,7,8,9,10,11,12,13,14,15,16,17] (.on 1 (.pu 5 (.pu 6 (.g 6 (.of 7 (.of 8 (.of 9 (.of 10 (.of 11 (.of 12 (.of 13 (.of 14 (.of 15 (.of 16 (.pu 17 (.nx .dn)))))))))))) (.pu 7 (.pu 8 (.pu 9 (.pu 11 (.pu 12 (.pu 13 (.pu 10 (.pu 14 (.pu 15 (.pu 16 (.pu 17 (.st [16,17] .dn)))))))))))))))))))))) (.j [(0,.P),(1,.S),(4,.I .i64),(28,.B)] (λ(t:Option Addr×ByteArray×Int×Bool)=>ZI self1 t.1 t.2.2.1 t.2.2.2) .o)) .o)) .o))))) Tryz.func185 rfl rfl ⟨rfl,rfl,trivial⟩ rfl (by kernel_rfl) (by kernel_rfl)
noncomputable def Jm:CalleeS Tryz.prog:=mkC qv q8 [.P,.S] [] (λ(t:Option Addr×ByteArray)=>KN t.1 t.2) (λ(t:Option Addr×ByteArray)=>zW t.1 t.2)
def Ul (x0:Int):M (Int):=do
 let Xx4<-Zo x0
 M.ite Xx4 (do
  M.pure (IntKind.wrap .i64 (IntKind.wrap .u8 (x0 - 48)))
  ) (do
  let Xx7<-M.ite (decide (x0>=97)) (do
   M.pure (decide (x0<=102))
   ) (do
   M.pure false
   )
  M.ite Xx7 (do
   M.pure (IntKind.wrap .i64 ((IntKind.wrap .i64 (IntKind.wrap .u8 (x0 - 97)))+10))
   ) (do
   M.pure (-1)
   )
  )
theorem KGL (x0:Int):KY Tryz.prog 230 #[.int .u8 x0] (λ(r:Int)=>.int .i64 r) (Ul x0):=
 KG [XV] [] [.I .i64] [(0,.I .u8 x0)] .o Tryz.func230 rfl rfl ⟨rfl,trivial⟩ rfl (by kernel_rfl) (by kernel_rfl)
noncomputable def KGM:CalleeS Tryz.prog:=mkC KEo KE2 [.I .u8] [.I .i64] (λ(t:Int)=>Ul t) (λ(t:Int)=>KGL t)
def Zr (x0:Option Addr):M (Int):=do
 let Xx3<-KP x0
 let Xx6<-M.ite (Xx3==39) (do
  M.pure true
  ) (do
  M.pure (Xx3==92)
  )
 M.ite Xx6 (do
  let Xx8<-nilP x0
  let Xx9<-ldI .i64 ((Xx8).add 1)
  let Xx10<-nilP x0
  stV ((Xx10).add 1) (.int .i64 (IntKind.wrap .i64 (Xx9+1)))
  M.pure Xx3
  ) (do
  let Xx14<-KN x0 (⟨#[120]⟩:ByteArray)
  let Xx16<-KP x0
  let Xx17<-Ul Xx16
  let Xx20<-M.ite (decide (Xx17<0)) (do
   M.pure true
   ) (do
   let Xx21<-M.ite (decide (Xx17>=2)) (do
    M.pure (decide (Xx17<7))
    ) (do
    M.pure false
    )
   M.pure Xx21
   )
  M.ite Xx20 (do
   let Xx23<-nilP x0
   let Xx24<-ldI .i64 ((Xx23).add 1)
   let Xx25<-KO x0 Xx24
   M.pure 0
   ) (do
   let Xx28<-nilP x0
   let Xx29<-ldI .i64 ((Xx28).add 1)
   let Xx30<-nilP x0
   stV ((Xx30).add 1) (.int .i64 (IntKind.wrap .i64 (Xx29+1)))
   let Xx33<-KP x0
   let Xx34<-Ul Xx33
   let Xx37<-M.ite (decide (Xx34<0)) (do
    M.pure true
    ) (do
    let Xx38<-M.ite (Xx17==7) (do
     M.pure (Xx34 !=15)
     ) (do
     M.pure false
     )
    M.pure Xx38
    )
   M.ite Xx37 (do
    let Xx40<-nilP x0
    let Xx41<-ldI .i64 ((Xx40).add 1)
    let Xx42<-KO x0 Xx41
    M.pure 0
    ) (do
    let Xx45<-nilP x0
    let Xx46<-ldI .i64 ((Xx45).add 1)
    let Xx47<-nilP x0
    stV ((Xx47).add 1) (.int .i64 (IntKind.wrap .i64 (Xx46+1)))
    M.pure (IntKind.wrap .u8 (IntKind.wrap .i64 ((IntKind.wrap .i64 (16*Xx17))+Xx34)))
    )
   )
  )
theorem Nv (x0:Option Addr):KY Tryz.prog 215 #[.pointer x0] (λ(r:Int)=>.int .u8 r) (Zr x0):=
 KG [ZZ,Za,Jm,KGM] [0,6,14,22,24,37,38,43,50,63,64,69] [.I .u8] [(0,.P x0)] .o Tryz.func215 rfl rfl ⟨rfl,trivial⟩ rfl (by kernel_rfl) (by kernel_rfl)
noncomputable def Nw:CalleeS Tryz.prog:=mkC NP NT [.P] [.I .u8] (λ(t:Option Addr)=>Zr t) (λ(t:Option Addr)=>Nv t)
def ZL (self1:(Sl)->M (ByteArray)) (Cc16:Option Addr) (Cc17:Sl) (Cc18:Int) (Xx15:Bool):M (ByteArray):=do
 M.ite Xx15 (do
  let Xx19<-nilP Cc16
  let Xx20<-ldI .i64 ((Xx19).add 1)
  let Xx21<-KO Cc16 Xx20
  self1 Cc17
  ) (do
  M.ite (Cc18==39) (do
   let Xx24<-nilP Cc16
   let Xx25<-ldI .i64 ((Xx24).add 1)
   let Xx26<-nilP Cc16
   stV ((Xx26).add 1) (.int .i64 (IntKind.wrap .i64 (Xx25+1)))
   let Xx29<-b2s Cc17
   M.pure Xx29
   ) (do
   M.ite (Cc18==92) (do
    let Xx32<-nilP Cc16
    let Xx33<-ldI .i64 ((Xx32).add 1)
    let Xx34<-nilP Cc16
    stV ((Xx34).add 1) (.int .i64 (IntKind.wrap .i64 (Xx33+1)))
    let Xx36<-Zr Cc16
    let Xx37<-bdL Ko 1 #[.int .u8 Xx36]
    let Xx38<-apL Ko 1 1 (#[.int .u8 0]:Ea) Cc17 Xx37
    self1 Xx38
    ) (do
    let Xx40<-nilP Cc16
    let Xx41<-ldI .i64 ((Xx40).add 1)
    let Xx42<-nilP Cc16
    stV ((Xx42).add 1) (.int .i64 (IntKind.wrap .i64 (Xx41+1)))
    let Xx44<-bdL Ko 1 #[.int .u8 Cc18]
    let Xx45<-apL Ko 1 1 (#[.int .u8 0]:Ea) Cc17 Xx44
    self1 Xx45
    )
   )
  )
def Jn (Cc7:Option Addr) (self1:(Sl)->M (ByteArray)):(Sl)->M (ByteArray):=λs=>match s with
 |Xx6=>do
  let Xx11<-nilP Cc7
  let Xx12<-ldI .i64 ((Xx11).add 2)
  M.ite (decide (Xx12<0)) (do
   let Xx14<-KP Cc7
   let Xx46<-nilP Cc7
   let Xx47<-nilP Cc7
   let Xx48<-ldI .i64 ((Xx46).add 1)
   let Xx49<-ldS ((Xx47).add 0)
   M.ite (decide (Xx48>=(Xx49.size:Int))) (do
    ZL self1 Cc7 Xx6 Xx14 true
    ) (do
    M.ite (decide (Xx14<32)) (do
     ZL self1 Cc7 Xx6 Xx14 true
     ) (do
     ZL self1 Cc7 Xx6 Xx14 (decide (Xx14>126))
     )
    )
   ) (do
   M.pure ByteArray.empty
   )
def Ja (x0:Option Addr):M (ByteArray):=do
 let Xx4<-KN x0 (⟨#[39]⟩:ByteArray)
 M.loop (Jn x0) Sl.nil
theorem zm (x0:Option Addr):KY Tryz.prog 184 #[.pointer x0] (λ(r:ByteArray)=>.string r) (Ja x0):=
 KG [ZZ,Za,Jm,Nw] [0,5,7,12,14,26,30,44,45,53,65,73] [.S] [(0,.P x0)] (.q .o (.q .o (.q .o (.q (.b (.l [(0,.P)] [(3,.L)] (λ(t:Option Addr)=>Jn t) (λself1=>.q .o (.b (.q .o (.b (.q (.r [0,1,2,4,0,16,32,64,128,264,512,1024,3072,5120,9216,16384,49152,81920,147456] [0,1,2,4,0,16,32,64,128,264,512,1024,3072,5120,8192,16384,49152,81920,131072] [0,1,3,7,0,16,48,112,240,511,1023,2047,4095,8191,16383,32767,65535,131071,262143] (.pu 0 (.pu 1 (.pu 2 (.pu 4 (.pu 5 (.pu 6 (.pu 3 (.pu 7 (.pu 8 (.pu 9 (.pu 10 (.g 10 (.of 11 (.of 12 (.pu 13 (.pu 14 (.of 15 (.of 16 (.pu 17 (.pu 18 (.st [9,10,11,12,13,14,15,16,17,18] .dn))))))))) (.pu 11 (.pu 12 (.pu 13 (.pu 14 (.g 14 (.of 15 (.of 16 (.pu 17 (.pu 18 (.st [9,10,11,12,13,14,15,16,17,18] .dn))))) (.pu 15 (.pu 16 (.pu 17 (.pu 18 (.st [9,10,11,12,13,14,15,16,17,18] .dn))))))))))))))))))))))) (.j [(0,.P),(3,.L),(4,.I .u8),(25,.B)] (λ(t:Option Addr×Sl×Int×Bool)=>ZL self1 t.1 t.2.1 t.2.2.1 t.2.2.2) .o)))))))) .o)))) Tryz.func184 rfl rfl ⟨rfl,trivial⟩ rfl (by kernel_rfl) (by kernel_rfl)
noncomputable def zn:CalleeS Tryz.prog:=mkC zS zT [.P] [.S] (λ(t:Option Addr)=>Ja t) (λ(t:Option Addr)=>zm t)
def U8 (x0:Bool):M (Ea):=do
 let Xx2<-mkB KB (#[.int .i64 0,.int .i64 0,.string ByteArray.empty,.slice none 0 0]:Ea)
 M.ite x0 (do
  M.need ((#[.int .i64 3,.int .i64 1,.string ByteArray.empty,.slice none 0 0]:Ea).size=4)
  stG Xx2 (#[.int .i64 3,.int .i64 1,.string ByteArray.empty,.slice none 0 0]:Ea)
  let Rr7<-ldG 4 Xx2
  M.pure Rr7
  ) (do
  M.need ((#[.int .i64 3,.int .i64 0,.string ByteArray.empty,.slice none 0 0]:Ea).size=4)
  stG Xx2 (#[.int .i64 3,.int .i64 0,.string ByteArray.empty,.slice none 0 0]:Ea)
  let Rr10<-ldG 4 Xx2
  M.pure Rr10
  )
theorem KFF (x0:Bool):KY Tryz.prog 186 #[.bool x0] (λ(r:Ea)=>.agg r) (U8 x0):=
 KG [] [] [.G] [(0,.B x0)] .o Tryz.func186 rfl rfl ⟨rfl,trivial⟩ rfl (by kernel_rfl) (by kernel_rfl)
noncomputable def KFG:CalleeS Tryz.prog:=mkC KDE KDX [.B] [.G] (λ(t:Bool)=>U8 t) (λ(t:Bool)=>KFF t)
def Ki (Cc56:Option Addr) (Cc57:Addr) (Cc58:Addr):M (Ea):=do
 let Xx60<-KN Cc56 (⟨#[93]⟩:ByteArray)
 let Xx62<-ldG 4 Cc58
 M.need (Xx62.size=4)
 stG Cc57 Xx62
 let Rr64<-ldG 4 Cc57
 M.pure Rr64
def Zi (x0:Option Addr) (x1:Int):M (Ea):=do
 let Xx2<-mkB KB (#[.int .i64 0,.int .i64 0,.string ByteArray.empty,.slice none 0 0]:Ea)
 M.ite (decide (x1>=8)) (do
  let Xx6<-nilP x0
  let Xx7<-ldI .i64 ((Xx6).add 1)
  let Xx8<-KO x0 Xx7
  M.need ((#[.int .i64 0,.int .i64 0,.string ByteArray.empty,.slice none 0 0]:Ea).size=4)
  stG Xx2 (#[.int .i64 0,.int .i64 0,.string ByteArray.empty,.slice none 0 0]:Ea)
  let Rr11<-ldG 4 Xx2
  M.pure Rr11
  ) (do
  let Xx14<-KP x0
  let Xx16<-M.ite (Xx14==45) (do
   M.pure true
   ) (do
   let Xx17<-Zo Xx14
   M.pure Xx17
   )
  M.ite Xx16 (do
   let Xx19<-ZD x0 true
   let Xx20<-V8 Xx19
   M.need (Xx20.size=4)
   stG Xx2 Xx20
   let Rr22<-ldG 4 Xx2
   M.pure Rr22
   ) (do
   M.ite (Xx14==39) (do
    let Xx25<-Ja x0
    let Xx26<-V9 Xx25
    M.need (Xx26.size=4)
    stG Xx2 Xx26
    let Rr28<-ldG 4 Xx2
    M.pure Rr28
    ) (do
    M.ite (Xx14==116) (do
     let Xx31<-KN x0 (⟨#[116,114,117,101]⟩:ByteArray)
     let Xx33<-U8 true
     M.need (Xx33.size=4)
     stG Xx2 Xx33
     let Rr35<-ldG 4 Xx2
     M.pure Rr35
     ) (do
     M.ite (Xx14==102) (do
      let Xx38<-KN x0 (⟨#[102,97,108,115,101]⟩:ByteArray)
      let Xx40<-U8 false
      M.need (Xx40.size=4)
      stG Xx2 Xx40
      let Rr42<-ldG 4 Xx2
      M.pure Rr42
      ) (do
      let Xx44<-M.ite (Xx14==118) (do
       M.pure true
       ) (do
       M.pure (Xx14==101)
       )
      M.ite Xx44 (do
       let Xx46<-nilP x0
       let Xx47<-ldI .i64 ((Xx46).add 1)
       let Xx48<-nilP x0
       stV ((Xx48).add 1) (.int .i64 (IntKind.wrap .i64 (Xx47+1)))
       let Xx51<-KN x0 (⟨#[91]⟩:ByteArray)
       let Xx53<-ZD x0 true
       let Xx54<-mkB KB (#[.int .i64 0,.int .i64 0,.string ByteArray.empty,.slice none 0 0]:Ea)
       M.need ((#[.int .i64 7,.int .i64 Xx53,.string ByteArray.empty,.slice none 0 0]:Ea).size=4)
       stG Xx54 (#[.int .i64 7,.int .i64 Xx53,.string ByteArray.empty,.slice none 0 0]:Ea)
       M.ite (Xx14==118) (do
        stV ((Xx54).add 0) (.int .i64 6)
        Ki x0 Xx2 Xx54
        ) (do
        Ki x0 Xx2 Xx54
        )
       ) (do
       M.ite (Xx14==91) (do
        let Xx69<-nilP x0
        let Xx70<-ldI .i64 ((Xx69).add 1)
        let Xx71<-nilP x0
        stV ((Xx71).add 1) (.int .i64 (IntKind.wrap .i64 (Xx70+1)))
        let Xx74<-W5 Tryz.prog JW #[.pointer x0,.int .i64 x1,.string (⟨#[44,32]⟩:ByteArray),.int .u8 93] (λr:Sl=>(r:Sl).v)
        M.need ((#[.int .i64 4,.int .i64 0,.string ByteArray.empty,(Xx74:Sl).v]:Ea).size=4)
        stG Xx2 (#[.int .i64 4,.int .i64 0,.string ByteArray.empty,(Xx74:Sl).v]:Ea)
        let Rr76<-ldG 4 Xx2
        M.pure Rr76
        ) (do
        M.ite (Xx14==123) (do
         let Xx79<-nilP x0
         let Xx80<-ldI .i64 ((Xx79).add 1)
         let Xx81<-nilP x0
         stV ((Xx81).add 1) (.int .i64 (IntKind.wrap .i64 (Xx80+1)))
         let Xx84<-W5 Tryz.prog JW #[.pointer x0,.int .i64 x1,.string (⟨#[58,32]⟩:ByteArray),.int .u8 125] (λr:Sl=>(r:Sl).v)
         M.need ((#[.int .i64 5,.int .i64 0,.string ByteArray.empty,(Xx84:Sl).v]:Ea).size=4)
         stG Xx2 (#[.int .i64 5,.int .i64 0,.string ByteArray.empty,(Xx84:Sl).v]:Ea)
         let Rr86<-ldG 4 Xx2
         M.pure Rr86
         ) (do
         let Xx88<-nilP x0
         let Xx89<-ldI .i64 ((Xx88).add 1)
         let Xx90<-KO x0 Xx89
         M.need ((#[.int .i64 0,.int .i64 0,.string ByteArray.empty,.slice none 0 0]:Ea).size=4)
         stG Xx2 (#[.int .i64 0,.int .i64 0,.string ByteArray.empty,.slice none 0 0]:Ea)
         let Rr93<-ldG 4 Xx2
         M.pure Rr93
         )
        )
       )
      )
     )
    )
   )
  )
theorem Ye (x0:Option Addr) (x1:Int):KY Tryz.prog 128 #[.pointer x0,.int .i64 x1] (λ(r:Ea)=>.agg r) (Zi x0 x1):=
 KG [ZZ,Za,XV,qR,zn,Jm,KFG,mkC JW q7 [.P,.I .i64,.S,.I .u8] [.L] (λ(t:Option Addr×Int×ByteArray×Int)=>W5 Tryz.prog JW #[.pointer t.1,.int .i64 t.2.1,.string t.2.2.1,.int .u8 t.2.2.2] (λr:Sl=>(r:Sl).v)) (λ(t:Option Addr×Int×ByteArray×Int)=>Z3),zk,zl] [0,9,10,16,25,31,37,43,53,60,62,68,74,81,88,95,99,100] [.G] [(0,.P x0),(1,.I .i64 x1)] (.q .o (.q .o (.q (.q .o (.b (.q .o (.q .o (.q .o (.q .o (.q .o (.q .o (.q .o (.q .o (.q .o (.q (.q .o (.q .o (.q .o (.q .o (.j [(0,.P),(4,.A),(6,.A)] (λ(t:Option Addr×Addr×Addr)=>Ki t.1 t.2.1 t.2.2) .o))))) .o)))))))))))) .o))) Tryz.func128 rfl rfl ⟨rfl,rfl,trivial⟩ rfl (by kernel_rfl) (by kernel_rfl)
noncomputable def q9:CalleeS Tryz.prog:=mkC Zj YN [.P,.I .i64] [.G] (λ(t:Option Addr×Int)=>Zi t.1 t.2) (λ(t:Option Addr×Int)=>Ye t.1 t.2)
def JP (Cc9:Addr) (Cc10:Option Addr) (Cc11:Addr):M (Ea×Int×Int):=do
 let Xx14<-nilP Cc10
 let Xx15<-ldI .i64 ((Xx14).add 2)
 M.ite (decide (Xx15>=0)) (do
  let Xx17<-nilP Cc10
  let Xx18<-ldI .i64 ((Xx17).add 2)
  M.need ((#[.int .i64 0,.int .i64 0,.string ByteArray.empty,.slice none 0 0]:Ea).size=4)
  stG Cc9 (#[.int .i64 0,.int .i64 0,.string ByteArray.empty,.slice none 0 0]:Ea)
  chk (λh:Heap=>(KJ h ((Xx17).add 2)=some (.int .i64 Xx18)))
  let Rr20<-ldG 4 Cc9
  M.pure (Rr20,Xx18,22)
  ) (do
  let Xx23<-ldG 4 Cc11
  let Xx24<-Ub Xx23
  M.ite (Xx24 !=0) (do
   M.need ((#[.int .i64 0,.int .i64 0,.string ByteArray.empty,.slice none 0 0]:Ea).size=4)
   stG Cc9 (#[.int .i64 0,.int .i64 0,.string ByteArray.empty,.slice none 0 0]:Ea)
   let Rr27<-ldG 4 Cc9
   M.pure (Rr27,0,20)
   ) (do
   let Xx29<-ldG 4 Cc11
   M.need (Xx29.size=4)
   stG Cc9 Xx29
   let Rr31<-ldG 4 Cc9
   M.pure (Rr31,0,0)
   )
  )
def Ud (x0:ByteArray):M (Ea×Int×Int):=do
 let Xx2<-mkB KB (#[.int .i64 0,.int .i64 0,.string ByteArray.empty,.slice none 0 0]:Ea)
 let Xx4<-mkB ZV (#[.string x0,.int .i64 0,.int .i64 (-1)]:Ea)
 let Xx6<-Zi (some Xx4) 0
 let Xx7<-mkB KB (#[.int .i64 0,.int .i64 0,.string ByteArray.empty,.slice none 0 0]:Ea)
 M.need (Xx6.size=4)
 stG Xx7 Xx6
 let Xx33<-nilP (some Xx4)
 let Xx34<-ldI .i64 ((Xx33).add 2)
 let Xx35<-M.ite (decide (Xx34<0)) (do
  let Xx36<-nilP (some Xx4)
  let Xx37<-ldI .i64 ((Xx36).add 1)
  M.pure (decide (Xx37<(x0.size:Int)))
  ) (do
  M.pure false
  )
 M.ite Xx35 (do
  let Xx38<-nilP (some Xx4)
  let Xx39<-ldI .i64 ((Xx38).add 1)
  let Xx40<-KO (some Xx4) Xx39
  JP Xx2 (some Xx4) Xx7
  ) (do
  JP Xx2 (some Xx4) Xx7
  )
theorem KDv (x0:ByteArray):KY Tryz.prog 97 #[.string x0] (λ(r:Ea×Int×Int)=>.tuple #[.agg r.1,.int .i64 r.2.1,.int .i64 r.2.2]) (Ud x0):=
 KG [q9,ZZ,qP] [5,10,12,18,26,27,32,38] [.G,.I .i64,.I .i64] [(0,.S x0)] (.q .o (.q .o (.q .o (.q .o (.j [(2,.A),(5,.P),(6,.A)] (λ(t:Addr×Option Addr×Addr)=>JP t.1 t.2.1 t.2.2) (.q (.q .o (.q (.q (.r [0,0,2,4,8,1,63,127] [0,0,2,4,8,1,16,0] [0,0,2,6,14,1,63,127] (.pu 0 (.pu 1 (.pu 2 (.pu 3 (.pu 4 (.st [6,7] (.on 5 (.pu 6 (.pu 7 (.nx .dn))))))))))) .o) .o)) .o)))))) Tryz.func97 rfl rfl ⟨rfl,trivial⟩ rfl (by kernel_rfl) (by kernel_rfl)
noncomputable def KDw:CalleeS Tryz.prog:=mkC KB3 KCQ [.S] [.G,.I .i64,.I .i64] (λ(t:ByteArray)=>Ud t) (λ(t:ByteArray)=>KDv t)
def VM (Cc43:ByteArray) (Cc44:Addr) (Xx42:Int):M (Ea×Int):=do
 let Xx46<-slS Cc43 Xx42 Cc43.size
 let Xx47<-U7 Xx46
 let Xx49<-slS Cc43 0 (IntKind.wrap .i64 (Xx42+Xx47))
 let Xx50<-Ud Xx49
 let Xx51<-mkB KB (#[.int .i64 0,.int .i64 0,.string ByteArray.empty,.slice none 0 0]:Ea)
 M.need (Xx50.1.size=4)
 stG Xx51 Xx50.1
 let Xx55<-M.ite (Xx47==0) (do
  M.pure true
  ) (do
  M.pure (Xx50.2.2 !=0)
  )
 let Xx56<-M.ite Xx55 (do
  M.pure true
  ) (do
  let Xx57<-ldI .i64 ((Xx51).add 0)
  M.pure (Xx57 !=1)
  )
 M.ite Xx56 (do
  M.need ((#[.int .i64 0,.string ByteArray.empty,.int .i64 0,.int .i64 0]:Ea).size=4)
  stG Cc44 (#[.int .i64 0,.string ByteArray.empty,.int .i64 0,.int .i64 0]:Ea)
  let Rr60<-ldG 4 Cc44
  M.pure (Rr60,0)
  ) (do
  let Xx62<-ldI .i64 ((Xx51).add 1)
  M.need ((#[.int .i64 2,.string ByteArray.empty,.int .i64 Xx62,.int .i64 0]:Ea).size=4)
  stG Cc44 (#[.int .i64 2,.string ByteArray.empty,.int .i64 Xx62,.int .i64 0]:Ea)
  let Rr64<-ldG 4 Cc44
  M.pure (Rr64,IntKind.wrap .i64 (Xx42+Xx47))
  )
def WA (x0:ByteArray):M (Ea×Int):=do
 let Xx2<-mkB KL (#[.int .i64 0,.string ByteArray.empty,.int .i64 0,.int .i64 0]:Ea)
 let Xx5<-ixS x0 0
 let Xx6<-U6 Xx5
 M.ite Xx6 (do
  let Xx8<-slS x0 0 1
  M.need ((#[.int .i64 4,.string Xx8,.int .i64 0,.int .i64 0]:Ea).size=4)
  stG Xx2 (#[.int .i64 4,.string Xx8,.int .i64 0,.int .i64 0]:Ea)
  let Rr10<-ldG 4 Xx2
  M.pure (Rr10,1)
  ) (do
  let Xx13<-ixS x0 0
  let Xx14<-J0 Xx13
  M.ite Xx14 (do
   let Xx16<-U7 x0
   let Xx18<-slS x0 0 Xx16
   M.need ((#[.int .i64 1,.string Xx18,.int .i64 0,.int .i64 0]:Ea).size=4)
   stG Xx2 (#[.int .i64 1,.string Xx18,.int .i64 0,.int .i64 0]:Ea)
   let Rr20<-ldG 4 Xx2
   M.pure (Rr20,Xx16)
   ) (do
   let Xx23<-VJ x0
   M.ite (decide (Xx23>0)) (do
    let Xx26<-slS x0 0 Xx23
    let Xx27<-Ud Xx26
    let Xx28<-mkB KB (#[.int .i64 0,.int .i64 0,.string ByteArray.empty,.slice none 0 0]:Ea)
    M.need (Xx27.1.size=4)
    stG Xx28 Xx27.1
    let Xx32<-M.ite (Xx27.2.2 !=0) (do
     M.pure true
     ) (do
     let Xx33<-ldI .i64 ((Xx28).add 0)
     M.pure (Xx33 !=2)
     )
    M.ite Xx32 (do
     M.need ((#[.int .i64 0,.string ByteArray.empty,.int .i64 0,.int .i64 0]:Ea).size=4)
     stG Xx2 (#[.int .i64 0,.string ByteArray.empty,.int .i64 0,.int .i64 0]:Ea)
     let Rr36<-ldG 4 Xx2
     M.pure (Rr36,0)
     ) (do
     let Xx38<-ldS ((Xx28).add 2)
     M.need ((#[.int .i64 3,.string Xx38,.int .i64 0,.int .i64 0]:Ea).size=4)
     stG Xx2 (#[.int .i64 3,.string Xx38,.int .i64 0,.int .i64 0]:Ea)
     let Rr40<-ldG 4 Xx2
     M.pure (Rr40,Xx23)
     )
    ) (do
    let Xx66<-ixS x0 0
    M.ite (Xx66==45) (do
     VM x0 Xx2 1
     ) (do
     VM x0 Xx2 0
     )
    )
   )
  )
theorem KGN (x0:ByteArray):KY Tryz.prog 48 #[.string x0] (λ(r:Ea×Int)=>.tuple #[.agg r.1,.int .i64 r.2]) (WA x0):=
 KG [zJ,Nj,KFC,KCl,KDw] [] [.G,.I .i64] [(0,.S x0)] (.q .o (.q .o (.q .o (.q .o (.q .o (.q .o (.j [(0,.S),(2,.A),(9,.I .i64)] (λ(t:ByteArray×Addr×Int)=>VM t.1 t.2.1 t.2.2) .o))))))) Tryz.func48 rfl rfl ⟨rfl,trivial⟩ rfl (by kernel_rfl) (by kernel_rfl)
noncomputable def zo:CalleeS Tryz.prog:=mkC KEr KE5 [.S] [.G,.I .i64] (λ(t:ByteArray)=>WA t) (λ(t:ByteArray)=>KGN t)
def Yo (self1:(Sl×Int)->M (Sl×Int)) (Cc11:ByteArray) (Cc12:Int) (Cc13:Sl) (self2:(Int)->M (Sl×Int)):(Int)->M (Sl×Int):=λs=>match s with
 |Xx10=>do
  let Xx17<-M.ite (decide (Xx10<(Cc11.size:Int))) (do
   let Xx18<-ixS Cc11 Xx10
   let Xx19<-M.ite (Xx18==32) (do
    M.pure true
    ) (do
    let Xx20<-ixS Cc11 Xx10
    M.pure (Xx20==10)
    )
   M.pure Xx19
   ) (do
   M.pure false
   )
  M.ite Xx17 (do
   self2 (IntKind.wrap .i64 (Xx10+1))
   ) (do
   let Xx23<-M.ite (Xx10==(Cc11.size:Int)) (do
    M.pure true
    ) (do
    M.pure ((Cc13.len:Int)==Cc12)
    )
   M.ite Xx23 (do
    M.pure (Cc13,Xx10)
    ) (do
    let Xx26<-slS Cc11 Xx10 Cc11.size
    let Xx27<-WA Xx26
    let Xx28<-mkB KL (#[.int .i64 0,.string ByteArray.empty,.int .i64 0,.int .i64 0]:Ea)
    M.need (Xx27.1.size=4)
    stG Xx28 Xx27.1
    stV ((Xx28).add 3) (.int .i64 Xx10)
    let Xx34<-M.ite (Xx27.2==0) (do
     M.pure true
     ) (do
     let Xx35<-ldG 4 Xx28
     let Xx36<-Ua Xx35
     M.pure (Xx36 !=0)
     )
    M.ite Xx34 (do
     M.pure (Cc13,Xx10)
     ) (do
     let Xx39<-ldG 4 Xx28
     let y_41<-Xs 4 1 (#[.int .i64 0,.string ByteArray.empty,.int .i64 0,.int .i64 0]:Ea) [(0,.agg Xx39)]
     let Xx40<-bdL KL 1 y_41
     let Xx42<-apL KL 4 40 (#[.int .i64 0,.string ByteArray.empty,.int .i64 0,.int .i64 0]:Ea) Cc13 Xx40
     self1 (Xx42,IntKind.wrap .i64 (Xx10+Xx27.2))
     )
    )
   )
def Yp (Cc6:ByteArray) (Cc7:Int) (self1:(Sl×Int)->M (Sl×Int)):(Sl×Int)->M (Sl×Int):=λs=>match s with
 |(Xx4,Xx5)=>do
  M.loop (Yo self1 Cc6 Cc7 Xx4) Xx5
def WB (x0:ByteArray) (x1:Int):M (Sl×Int):=do
 M.loop (Yp x0 x1) (Sl.nil,0)
theorem KDx (x0:ByteArray) (x1:Int):KY Tryz.prog 47 #[.string x0,.int .i64 x1] (λ(r:Sl×Int)=>.tuple #[(r.1:Sl).v,.int .i64 r.2]) (WB x0 x1):=
 KG [qO,zo] [] [.L,.I .i64] [(0,.S x0),(1,.I .i64 x1)] (.q .o (.q .o (.q .o (.b (.l [(0,.S),(1,.I .i64)] [(6,.L),(7,.I .i64)] (λ(t:ByteArray×Int)=>Yp t.1 t.2) (λself1=>.b (.q (.b (.l [(0,.S),(1,.I .i64),(6,.L)] [(7,.I .i64)] (λ(t:ByteArray×Int×Sl)=>Yo self1 t.1 t.2.1 t.2.2) (λ_=>.o))) .o))))))) Tryz.func47 rfl rfl ⟨rfl,rfl,trivial⟩ rfl (by kernel_rfl) (by kernel_rfl)
noncomputable def KDy:CalleeS Tryz.prog:=mkC KB9 KCX [.S,.I .i64] [.L,.I .i64] (λ(t:ByteArray×Int)=>WB t.1 t.2) (λ(t:ByteArray×Int)=>KDx t.1 t.2)
def VN (Cc10:Int):M (Sl×Int×Int):=do
 M.pure (Sl.nil,Cc10,150)
def YQ (x0:ByteArray):M (Sl×Int×Int):=do
 M.ite (decide ((x0.size:Int)>16384)) (do
  M.pure (Sl.nil,0,3)
  ) (do
  let Xx6<-WB x0 4096
  M.ite (Xx6.2==(x0.size:Int)) (do
   M.pure (Xx6.1,Xx6.2,0)
   ) (do
   M.ite ((Xx6.1.len:Int)==4096) (do
    let Xx14<-slS x0 Xx6.2 x0.size
    let Xx15<-WA Xx14
    let Xx16<-mkB KL (#[.int .i64 0,.string ByteArray.empty,.int .i64 0,.int .i64 0]:Ea)
    M.need (Xx15.1.size=4)
    stG Xx16 Xx15.1
    let Xx19<-M.ite (decide (Xx15.2>0)) (do
     let Xx20<-ldG 4 Xx16
     let Xx21<-Ua Xx20
     M.pure (Xx21==0)
     ) (do
     M.pure false
     )
    M.ite Xx19 (do
     M.pure (Sl.nil,Xx6.2,3)
     ) (do
     VN Xx6.2
     )
    ) (do
    VN Xx6.2
    )
   )
  )
theorem KGO (x0:ByteArray):KY Tryz.prog 14 #[.string x0] (λ(r:Sl×Int×Int)=>.tuple #[(r.1:Sl).v,.int .i64 r.2.1,.int .i64 r.2.2]) (YQ x0):=
 KG [qO,KDy,zo] [] [.L,.I .i64,.I .i64] [(0,.S x0)] (.q .o (.q .o (.q .o (.q .o (.q .o (.j [(6,.I .i64)] (λ(t:Int)=>VN t) .o)))))) Tryz.func14 rfl rfl ⟨rfl,trivial⟩ rfl (by kernel_rfl) (by kernel_rfl)
noncomputable def KGP:CalleeS Tryz.prog:=mkC KEq KE4 [.S] [.L,.I .i64,.I .i64] (λ(t:ByteArray)=>YQ t) (λ(t:ByteArray)=>KGO t)
def N8 (x0:ByteArray):M (Bool):=do
 let Xx4<-M.ite (sEq x0 ByteArray.empty) (do
  M.pure true
  ) (do
  M.pure (decide ((x0.size:Int)>24))
  )
 let Xx5<-M.ite Xx4 (do
  M.pure true
  ) (do
  let Xx6<-ixS x0 0
  let Xx7<-M.ite (decide (Xx6>=48)) (do
   let Xx8<-ixS x0 0
   M.pure (decide (Xx8<=57))
   ) (do
   M.pure false
   )
  M.pure Xx7
  )
 M.ite Xx5 (do
  M.pure false
  ) (do
  let Xx11<-Xh x0 (⟨#[97,98,99,100,101,102,103,104,105,106,107,108,109,110,111,112,113,114,115,116,117,118,119,120,121,122,65,66,67,68,69,70,71,72,73,74,75,76,77,78,79,80,81,82,83,84,85,86,87,88,89,90,48,49,50,51,52,53,54,55,56,57,95]⟩:ByteArray)
  M.pure (sEq Xx11 ByteArray.empty)
  )
theorem KMR (x0:ByteArray):KY Tryz.prog 53 #[.string x0] (λ(r:Bool)=>.bool r) (N8 x0):=
 KG [mkC KH4 KH8 [.S,.S] [.S] (λ(t:ByteArray×ByteArray)=>Xh t.1 t.2) (λ(t:ByteArray×ByteArray)=>KJW t.1 t.2)] [] [.B] [(0,.S x0)] .o Tryz.func53 rfl rfl ⟨rfl,trivial⟩ rfl (by kernel_rfl) (by kernel_rfl)
noncomputable def KGv:CalleeS Tryz.prog:=mkC KKi KKt [.S] [.B] (λ(t:ByteArray)=>N8 t) (λ(t:ByteArray)=>KMR t)
def JA (x0:ByteArray) (x1:Int):M (Int):=do
 let Xx3<-ZX x0 x1
 M.pure Xx3
theorem KDz (x0:ByteArray) (x1:Int):KY Tryz.prog 100 #[.string x0,.int .u8 x1] (λ(r:Int)=>.int .i64 r) (JA x0 x1):=
 KG [mkC Xw Xy [.S,.I .u8] [.I .i64] (λ(t:ByteArray×Int)=>ZX t.1 t.2) (λ(t:ByteArray×Int)=>GK t.1 t.2)] [] [.I .i64] [(0,.S x0),(1,.I .u8 x1)] .o Tryz.func100 rfl rfl ⟨rfl,rfl,trivial⟩ rfl (by kernel_rfl) (by kernel_rfl)
noncomputable def qS:CalleeS Tryz.prog:=mkC KCF KCd [.S,.I .u8] [.I .i64] (λ(t:ByteArray×Int)=>JA t.1 t.2) (λ(t:ByteArray×Int)=>KDz t.1 t.2)
def N9 (x0:Int):M (Bool):=do
 let Xx3<-JA (⟨#[46,40,41,44,91,93,123,125,58,61,59]⟩:ByteArray) x0
 M.pure (decide (Xx3>=0))
theorem KMS (x0:Int):KY Tryz.prog 54 #[.int .u8 x0] (λ(r:Bool)=>.bool r) (N9 x0):=
 KG [qS] [] [.B] [(0,.I .u8 x0)] .o Tryz.func54 rfl rfl ⟨rfl,trivial⟩ rfl (by kernel_rfl) (by kernel_rfl)
noncomputable def KGw:CalleeS Tryz.prog:=mkC KKb KKl [.I .u8] [.B] (λ(t:Int)=>N9 t) (λ(t:Int)=>KMS t)
def WT (Xx12:Bool):M (Int):=do
 M.ite (!Xx12) (do
  M.pure 150
  ) (do
  M.pure 0
  )
def zp (x0:Ea):M (Int):=do
 let Xx2<-mkB KL x0
 let Xx5<-ldI .i64 ((Xx2).add 3)
 let Xx6<-M.ite (decide (Xx5<0)) (do
  M.pure true
  ) (do
  let Xx7<-ldI .i64 ((Xx2).add 2)
  let Xx8<-M.ite (Xx7 !=0) (do
   let Xx9<-ldI .i64 ((Xx2).add 0)
   M.pure (Xx9 !=2)
   ) (do
   M.pure false
   )
  M.pure Xx8
  )
 M.ite Xx6 (do
  M.pure 150
  ) (do
  let Xx18<-ldI .i64 ((Xx2).add 0)
  M.ite (Xx18==1) (do
   let Xx20<-ldS ((Xx2).add 1)
   let Xx21<-N8 Xx20
   WT Xx21
   ) (do
   M.ite (Xx18==2) (do
    let Xx23<-ldS ((Xx2).add 1)
    WT (sEq Xx23 ByteArray.empty)
    ) (do
    M.ite (Xx18==3) (do
     let Xx25<-ldS ((Xx2).add 1)
     WT (decide ((Xx25.size:Int)<=128))
     ) (do
     M.ite (Xx18==4) (do
      let Xx27<-ldS ((Xx2).add 1)
      let Xx28<-M.ite ((Xx27.size:Int)==1) (do
       let Xx29<-ldS ((Xx2).add 1)
       let Xx30<-ixS Xx29 0
       let Xx31<-N9 Xx30
       M.pure Xx31
       ) (do
       M.pure false
       )
      WT Xx28
      ) (do
      WT false
      )
     )
    )
   )
  )
theorem KN5 (x0:Ea):KY Tryz.prog 22 #[.agg x0] (λ(r:Int)=>.int .i64 r) (zp x0):=
 KG [KGv,KGw] [] [.I .i64] [(0,.G x0)] (.q .o (.q .o (.q .o (.q .o (.j [(3,.B)] (λ(t:Bool)=>WT t) .o))))) Tryz.func22 rfl rfl ⟨rfl,trivial⟩ rfl (by kernel_rfl) (by kernel_rfl)
noncomputable def KN6:CalleeS Tryz.prog:=mkC KMF KMK [.G] [.I .i64] (λ(t:Ea)=>zp t) (λ(t:Ea)=>KN5 t)
end Gx
namespace Gx
open Go
def KBN (x0:Int):M (Ea):=do
 let Xx2<-mkB KB (#[.int .i64 0,.int .i64 0,.string ByteArray.empty,.slice none 0 0]:Ea)
 M.need ((#[.int .i64 1,.int .i64 x0,.string ByteArray.empty,.slice none 0 0]:Ea).size=4)
 stG Xx2 (#[.int .i64 1,.int .i64 x0,.string ByteArray.empty,.slice none 0 0]:Ea)
 let Rr5<-ldG 4 Xx2
 M.pure Rr5
theorem KN7 (x0:Int):KY Tryz.prog 51 #[.int .i64 x0] (λ(r:Ea)=>.agg r) (KBN x0):=
 KG [] [] [.G] [(0,.I .i64 x0)] .o Tryz.func51 rfl rfl ⟨rfl,trivial⟩ rfl (by kernel_rfl) (by kernel_rfl)
noncomputable def KIB:CalleeS Tryz.prog:=mkC KMH KMN [.I .i64] [.G] (λ(t:Int)=>KBN t) (λ(t:Int)=>KN7 t)
def KBO (x0:ByteArray):M (Ea):=do
 let Xx2<-mkB KB (#[.int .i64 0,.int .i64 0,.string ByteArray.empty,.slice none 0 0]:Ea)
 M.need ((#[.int .i64 2,.int .i64 0,.string x0,.slice none 0 0]:Ea).size=4)
 stG Xx2 (#[.int .i64 2,.int .i64 0,.string x0,.slice none 0 0]:Ea)
 let Rr5<-ldG 4 Xx2
 M.pure Rr5
theorem KN8 (x0:ByteArray):KY Tryz.prog 52 #[.string x0] (λ(r:Ea)=>.agg r) (KBO x0):=
 KG [] [] [.G] [(0,.S x0)] .o Tryz.func52 rfl rfl ⟨rfl,trivial⟩ rfl (by kernel_rfl) (by kernel_rfl)
noncomputable def KIC:CalleeS Tryz.prog:=mkC KMI KMO [.S] [.G] (λ(t:ByteArray)=>KBO t) (λ(t:ByteArray)=>KN8 t)
def U9 (x0:Int):M (Int):=do
 M.ite (decide (x0<0)) (do
  M.pure (IntKind.wrap .u64 (0 - (IntKind.wrap .u64 x0)))
  ) (do
  M.pure (IntKind.wrap .u64 x0)
  )
theorem KFH (x0:Int):KY Tryz.prog 200 #[.int .i64 x0] (λ(r:Int)=>.int .u64 r) (U9 x0):=
 KG [] [] [.I .u64] [(0,.I .i64 x0)] .o Tryz.func200 rfl rfl ⟨rfl,trivial⟩ rfl (by kernel_rfl) (by kernel_rfl)
noncomputable def KFI:CalleeS Tryz.prog:=mkC KDD KDW [.I .i64] [.I .u64] (λ(t:Int)=>U9 t) (λ(t:Int)=>KFH t)
def YR (self1:(Int×Sl)->M (Sl)):(Int×Sl)->M (Sl):=λs=>match s with
 |(Xx6,Xx7)=>do
  let Xx11<-M.ite (decide (Xx6>0)) (do
   M.pure true
   ) (do
   M.pure ((Xx7.len:Int)==0)
   )
  M.ite Xx11 (do
   let Xx13<-bdL WS 1 #[.int .i64 (IntKind.wrap .i64 (Int.tmod Xx6 10))]
   let Xx14<-apL WS 1 8 (#[.int .i64 0]:Ea) Xx13 Xx7
   self1 (IntKind.wrap .u64 (Int.tdiv Xx6 10),Xx14)
   ) (do
   M.pure Xx7
   )
def VO (x0:Int):M (Sl):=do
 let Xx3<-U9 x0
 M.loop YR (Xx3,Sl.nil)
theorem KCo (x0:Int):KY Tryz.prog 151 #[.int .i64 x0] (λ(r:Sl)=>(r:Sl).v) (VO x0):=
 KG [KFI] [] [.L] [(0,.I .i64 x0)] (.q .o (.q .o (.q .o (.q (.b (.l [] [(3,.I .u64),(4,.L)] (λ(t:Unit)=>YR) (λ_=>.o))) .o)))) Tryz.func151 rfl rfl ⟨rfl,trivial⟩ rfl (by kernel_rfl) (by kernel_rfl)
noncomputable def KCp:CalleeS Tryz.prog:=mkC KA4 KBE [.I .i64] [.L] (λ(t:Int)=>VO t) (λ(t:Int)=>KCo t)
def XW (Cc11:Sl) (self1:(ByteArray×Int)->M (ByteArray)):(ByteArray×Int)->M (ByteArray):=λs=>match s with
 |(Xx9,Xx10)=>do
  M.ite (decide (Xx10<(Cc11.len:Int))) (do
   let Xx16<-ixL Cc11 Xx10 1
   let Xx17<-ldI .i64 Xx16
   let Xx18<-bdL Ko 1 #[.int .u8 (IntKind.wrap .u8 (IntKind.wrap .i64 (48+Xx17)))]
   let Xx19<-b2s Xx18
   let Xx20<-sCat Xx9 Xx19
   self1 (Xx20,IntKind.wrap .i64 (Xx10+1))
   ) (do
   M.pure Xx9
   )
def Um (Cc4:Int) (Xx3:ByteArray):M (ByteArray):=do
 let Xx6<-VO Cc4
 M.loop (XW Xx6) (Xx3,0)
def J9 (x0:Int):M (ByteArray):=do
 M.ite (decide (x0<0)) (do
  Um x0 (⟨#[45]⟩:ByteArray)
  ) (do
  Um x0 ByteArray.empty
  )
theorem KFJ (x0:Int):KY Tryz.prog 111 #[.int .i64 x0] (λ(r:ByteArray)=>.string r) (J9 x0):=
 KG [KCp] [] [.S] [(0,.I .i64 x0)] (.q .o (.q .o (.q .o (.j [(0,.I .i64),(3,.S)] (λ(t:Int×ByteArray)=>Um t.1 t.2) (.q .o (.q (.q .o (.b (.l [(4,.L)] [(3,.S),(5,.I .i64)] (λ(t:Sl)=>XW t) (λ_=>.o)))) .o)))))) Tryz.func111 rfl rfl ⟨rfl,trivial⟩ rfl (by kernel_rfl) (by kernel_rfl)
noncomputable def KFK:CalleeS Tryz.prog:=mkC KDC KDV [.I .i64] [.S] (λ(t:Int)=>J9 t) (λ(t:Int)=>KFJ t)
def JQ (self1:(Sl×Int)->M (ByteArray)) (Cc14:Int) (Xx12:Sl):M (ByteArray):=do
 self1 (Xx12,IntKind.wrap .i64 (Cc14+1))
def Yq (Cc8:ByteArray) (self1:(Sl×Int)->M (ByteArray)):(Sl×Int)->M (ByteArray):=λs=>match s with
 |(Xx6,Xx7)=>do
  M.ite (decide (Xx7<(Cc8.size:Int))) (do
   let Xx16<-ixS Cc8 Xx7
   let Xx18<-M.ite (Xx16==39) (do
    M.pure true
    ) (do
    M.pure (Xx16==92)
    )
   M.ite Xx18 (do
    let Xx19<-bdL Ko 2 #[.int .u8 92,.int .u8 Xx16]
    let Xx20<-apL Ko 1 1 (#[.int .u8 0]:Ea) Xx6 Xx19
    JQ self1 Xx7 Xx20
    ) (do
    let Xx22<-M.ite (decide (Xx16<32)) (do
     M.pure true
     ) (do
     M.pure (decide (Xx16>126))
     )
    M.ite Xx22 (do
     let Xx23<-ixS (⟨#[48,49,50,51,52,53,54,55,56,57,97,98,99,100,101,102]⟩:ByteArray) (IntKind.wrap .u8 (Int.tdiv Xx16 16))
     let Xx24<-ixS (⟨#[48,49,50,51,52,53,54,55,56,57,97,98,99,100,101,102]⟩:ByteArray) (Int.tmod Xx16 16)
     let Xx25<-bdL Ko 4 #[.int .u8 92,.int .u8 120,.int .u8 Xx23,.int .u8 Xx24]
     let Xx26<-apL Ko 1 1 (#[.int .u8 0]:Ea) Xx6 Xx25
     JQ self1 Xx7 Xx26
     ) (do
     let Xx27<-bdL Ko 1 #[.int .u8 Xx16]
     let Xx28<-apL Ko 1 1 (#[.int .u8 0]:Ea) Xx6 Xx27
     JQ self1 Xx7 Xx28
     )
    )
   ) (do
   let Xx30<-bdL Ko 1 #[.int .u8 39]
   let Xx31<-apL Ko 1 1 (#[.int .u8 0]:Ea) Xx6 Xx30
   let Xx32<-b2s Xx31
   M.pure Xx32
   )
def WC (x0:ByteArray):M (ByteArray):=do
 let Xx3<-bdL Ko 1 #[.int .u8 39]
 M.loop (Yq x0) (Xx3,0)
theorem KD0 (x0:ByteArray):KY Tryz.prog 112 #[.string x0] (λ(r:ByteArray)=>.string r) (WC x0):=
 KG [] [] [.S] [(0,.S x0)] (.q .o (.q .o (.q (.q .o (.b (.l [(0,.S)] [(3,.L),(4,.I .i64)] (λ(t:ByteArray)=>Yq t) (λself1=>.q .o (.q (.b (.q .o (.b (.q .o (.q .o (.q .o (.q (.r [0,0,2,4,0,16,32,72,129,511] [0,0,2,4,0,16,32,72,129,257] [0,0,2,6,0,16,48,126,255,511] (.pu 0 (.pu 1 (.pu 2 (.pu 3 (.pu 4 (.pu 5 (.pu 6 (.st [0,1,2,3,4,5,6,7,8,9] (.on 7 (.on 8 (.pu 9 (.nx .dn))))))))))))) .o))))))) (.j [(0,.S),(4,.I .i64),(3,.L)] (λ(t:ByteArray×Int×Sl)=>JQ self1 t.2.1 t.2.2) .o)))))) .o))) Tryz.func112 rfl rfl ⟨rfl,trivial⟩ rfl (by kernel_rfl) (by kernel_rfl)
noncomputable def KD1:CalleeS Tryz.prog:=mkC KB4 KCR [.S] [.S] (λ(t:ByteArray)=>WC t) (λ(t:ByteArray)=>KD0 t)
def UA (x0:Ea) (x1:Int):M (ByteArray):=do
 let Xx2<-mkB KB x0
 M.ite (decide (x1>=8)) (do
  M.pure (⟨#[63]⟩:ByteArray)
  ) (do
  let Xx8<-ldI .i64 ((Xx2).add 0)
  M.ite (Xx8==1) (do
   let Xx11<-ldI .i64 ((Xx2).add 1)
   let Xx12<-J9 Xx11
   M.pure Xx12
   ) (do
   M.ite (Xx8==2) (do
    let Xx15<-ldS ((Xx2).add 2)
    let Xx16<-WC Xx15
    M.pure Xx16
    ) (do
    M.ite (Xx8==3) (do
     let Xx20<-ldI .i64 ((Xx2).add 1)
     M.ite (Xx20==1) (do
      M.pure (⟨#[116,114,117,101]⟩:ByteArray)
      ) (do
      M.pure (⟨#[102,97,108,115,101]⟩:ByteArray)
      )
     ) (do
     M.ite (Xx8==6) (do
      let Xx25<-ldI .i64 ((Xx2).add 1)
      let Xx26<-J9 Xx25
      let Xx27<-sCat (⟨#[118,91]⟩:ByteArray) Xx26
      let Xx28<-sCat Xx27 (⟨#[93]⟩:ByteArray)
      M.pure Xx28
      ) (do
      M.ite (Xx8==7) (do
       let Xx31<-ldI .i64 ((Xx2).add 1)
       let Xx32<-J9 Xx31
       let Xx33<-sCat (⟨#[101,91]⟩:ByteArray) Xx32
       let Xx34<-sCat Xx33 (⟨#[93]⟩:ByteArray)
       M.pure Xx34
       ) (do
       M.ite (Xx8==4) (do
        let Xx37<-ldL ((Xx2).add 3)
        let Xx38<-W5 Tryz.prog Vg #[(Xx37:Sl).v,.int .i64 x1,.string (⟨#[44,32]⟩:ByteArray),.string (⟨#[44,32]⟩:ByteArray)] (λr:ByteArray=>.string r)
        let Xx39<-sCat (⟨#[91]⟩:ByteArray) Xx38
        let Xx40<-sCat Xx39 (⟨#[93]⟩:ByteArray)
        M.pure Xx40
        ) (do
        M.ite (Xx8==5) (do
         let Xx43<-ldL ((Xx2).add 3)
         let Xx44<-W5 Tryz.prog Vg #[(Xx43:Sl).v,.int .i64 x1,.string (⟨#[58,32]⟩:ByteArray),.string (⟨#[44,32]⟩:ByteArray)] (λr:ByteArray=>.string r)
         let Xx45<-sCat (⟨#[123]⟩:ByteArray) Xx44
         let Xx46<-sCat Xx45 (⟨#[125]⟩:ByteArray)
         M.pure Xx46
         ) (do
         M.pure (⟨#[63]⟩:ByteArray)
         )
        )
       )
      )
     )
    )
   )
  )
theorem zK (x0:Ea) (x1:Int):KY Tryz.prog 71 #[.agg x0,.int .i64 x1] (λ(r:ByteArray)=>.string r) (UA x0 x1):=
 KG [KFK,KD1,mkC Vg KCU [.L,.I .i64,.S,.S] [.S] (λ(t:Sl×Int×ByteArray×ByteArray)=>W5 Tryz.prog Vg #[(t.1:Sl).v,.int .i64 t.2.1,.string t.2.2.1,.string t.2.2.2] (λr:ByteArray=>.string r)) (λ(t:Sl×Int×ByteArray×ByteArray)=>Z3)] [] [.S] [(0,.G x0),(1,.I .i64 x1)] .o Tryz.func71 rfl rfl ⟨rfl,rfl,trivial⟩ rfl (by kernel_rfl) (by kernel_rfl)
noncomputable def KFL:CalleeS Tryz.prog:=mkC WW qI [.G,.I .i64] [.S] (λ(t:Ea×Int)=>UA t.1 t.2) (λ(t:Ea×Int)=>zK t.1 t.2)
def Z1 (x0:Ea):M (ByteArray):=do
 let Xx2<-mkB KB x0
 let Xx4<-ldG 4 Xx2
 let Xx5<-UA Xx4 0
 M.pure Xx5
theorem KFM (x0:Ea):KY Tryz.prog 34 #[.agg x0] (λ(r:ByteArray)=>.string r) (Z1 x0):=
 KG [KFL] [] [.S] [(0,.G x0)] .o Tryz.func34 rfl rfl ⟨rfl,trivial⟩ rfl (by kernel_rfl) (by kernel_rfl)
noncomputable def zL:CalleeS Tryz.prog:=mkC KDH KDa [.G] [.S] (λ(t:Ea)=>Z1 t) (λ(t:Ea)=>KFM t)
end Gx
