/- Printed by program: Go functions as Lean programs, each tied to its code. No condition. -/
import Derived.Test.YthelieedlghccaaGreatDoorP0
import Derived.Test.YthelieedlghccaaGreatDoorP1
import Derived.Test.YthelieedlghccaaGreatDoorP2
import Derived.Test.YthelieedlghccaaGreatDoorProg
import Derived.KernelRfl
import Derived.Lib.AtoiErrMem
import Derived.Shelf.Small.Bits
import Derived.Shelf.Small.Strs
import Derived.Shelf.Strconv.Itoa3
import Derived.Shelf.Strconv.ParseInt10All
import Derived.Shelf.Strings.Builder1
import Derived.Shelf.Strings.Count
import Derived.Shelf.Strings.Search1
import Derived.Shelf.Strings.Search2
import Derived.Shelf.Strings.SlTrimAscii
set_option linter.unusedVariables false
set_option linter.unusedSimpArgs false
namespace Gx
open Go
abbrev KAh:Nat:=108
abbrev zb:Nat:=70
abbrev N9:Nat:=71
abbrev KED:Nat:=69
abbrev KBW:Nat:=125
abbrev zc:Nat:=126
abbrev V7:Nat:=127
abbrev YI:Nat:=243
abbrev Jd:Nat:=198
abbrev Yy:Nat:=201
abbrev Ya:Nat:=248
abbrev Wa:Nat:=229
abbrev YJ:Nat:=230
abbrev Wb:Nat:=249
abbrev Yc:Nat:=247
abbrev Yd:Nat:=228
abbrev X5:Nat:=227
abbrev Ye:Nat:=253
abbrev XO:Nat:=158
abbrev V8:Nat:=187
abbrev Yf:Nat:=155
abbrev V9:Nat:=194
abbrev zd:Nat:=217
abbrev Xm:Nat:=250
abbrev Yz:Nat:=259
abbrev Xy:Nat:=114
abbrev KCz:Nat:=160
abbrev KGJ:Nat:=109
abbrev KGK:Nat:=141
abbrev qA:Nat:=53
abbrev ze:Nat:=48
abbrev Jw:Nat:=38
abbrev zf:Nat:=27
abbrev qf:Nat:=19
abbrev NG:Nat:=54
abbrev zg:Nat:=29
abbrev zh:Nat:=85
abbrev qg:Nat:=86
abbrev qh:Nat:=60
abbrev KEE:Nat:=56
abbrev GN:Nat:=119
abbrev KC0:Nat:=49
abbrev zi:Nat:=58
abbrev qB:Nat:=112
abbrev qj:Nat:=51
abbrev NZ:Nat:=101
abbrev KB8:Nat:=65
abbrev Zb:Nat:=122
abbrev VO:Nat:=123
abbrev KB9:Nat:=94
abbrev KC1:Nat:=100
abbrev ZX:Nat:=136
abbrev VU:Nat:=21
abbrev Zu:Nat:=73
abbrev UX:Nat:=128
abbrev Vx:Nat:=159
abbrev Uw:Nat:=169
abbrev Wn:Nat:=200
abbrev JN:Nat:=120
abbrev qC:Nat:=156
abbrev qk:Nat:=161
abbrev qD:Nat:=234
abbrev Gi:Nat:=235
abbrev Na:Nat:=233
abbrev NH:Nat:=232
abbrev zj:Nat:=202
abbrev Gj:Nat:=177
abbrev X6:Nat:=97
abbrev Y0:Nat:=96
abbrev YK:Nat:=95
abbrev Jj:Nat:=150
abbrev Gk:Nat:=219
abbrev zk:Nat:=72
abbrev KBX:Nat:=55
abbrev KC2:Nat:=113
abbrev KCA:Nat:=134
abbrev KC3:Nat:=16
abbrev YD:Nat:=39
abbrev Zp:Nat:=13
abbrev KFH:Nat:=36
abbrev KC4:Nat:=17
abbrev WA:Nat:=15
abbrev Y1:Nat:=18
abbrev KFI:Nat:=74
abbrev KC5:Nat:=129
abbrev KC6:Nat:=133
abbrev Y2:Nat:=75
abbrev Yq:Nat:=176
abbrev VF:Nat:=131
abbrev Y3:Nat:=76
abbrev KGL:Nat:=221
abbrev Wo:Nat:=246
abbrev KJA:Nat:=48
abbrev Jm:Nat:=124
abbrev Jn:Nat:=29
abbrev KB:Nat:=24
abbrev KCB:Nat:=4
abbrev XP:Nat:=60
abbrev WB:Nat:=3
abbrev Kj:Nat:=225
abbrev UB:Nat:=228
abbrev YL:Nat:=168
abbrev Zm:Nat:=22
abbrev ql:Nat:=249
abbrev VY:Nat:=9
abbrev ZJ:Nat:=109
abbrev K9:Nat:=5
abbrev XQ:Nat:=146
abbrev Z0:Nat:=142
theorem mo:Go.Proofs.Tryz.prog.follows .mixedOrders=true:=by kernel_rfl
theorem un22:Go.Proofs.Tryz.prog.underlying 22=some (.slice 24):=by kernel_rfl
theorem un3:Go.Proofs.Tryz.prog.underlying 3=some (.int .i64):=by kernel_rfl
theorem un35:Go.Proofs.Tryz.prog.underlying 35=some (.slice 5):=by kernel_rfl
theorem un5:Go.Proofs.Tryz.prog.underlying 5=some (.int .u8):=by kernel_rfl
theorem un9:Go.Proofs.Tryz.prog.underlying 9=some (.string):=by kernel_rfl
theorem KPS:((Go.Proofs.Tryz.prog.info? 109).bind (·.zero))=some (.agg (#[.pointer none,.slice none 0 0]:Array Value)):=by kernel_rfl
theorem KOT:((Go.Proofs.Tryz.prog.info? 142).bind (·.zero))=some (.agg (#[.int .i64 0]:Array Value)):=by kernel_rfl
theorem zr22:((Go.Proofs.Tryz.prog.info? 22).bind (·.zero))=some (.slice none 0 0):=by kernel_rfl
theorem zr24:((Go.Proofs.Tryz.prog.info? 24).bind (·.zero))=some (.agg (#[.int .i64 0,.int .i64 0,.string ByteArray.empty,.slice none 0 0]:Array Value)):=by kernel_rfl
theorem zr29:((Go.Proofs.Tryz.prog.info? 29).bind (·.zero))=some (.int .i64 0):=by kernel_rfl
theorem zr3:((Go.Proofs.Tryz.prog.info? 3).bind (·.zero))=some (.int .i64 0):=by kernel_rfl
theorem zr5:((Go.Proofs.Tryz.prog.info? 5).bind (·.zero))=some (.int .u8 0):=by kernel_rfl
theorem zr9:((Go.Proofs.Tryz.prog.info? 9).bind (·.zero))=some (.string ByteArray.empty):=by kernel_rfl
theorem ag24:agB Go.Proofs.Tryz.prog 24 4=true:=by kernel_rfl
theorem ap22:apB Go.Proofs.Tryz.prog 22 24 4 56 (#[.int .i64 0,.int .i64 0,.string ByteArray.empty,.slice none 0 0]:Array Value):=⟨un22,qd (by kernel_rfl)⟩
theorem ap35:apB Go.Proofs.Tryz.prog 35 5 1 1 (#[.int .u8 0]:Array Value):=⟨un35,qd (by kernel_rfl)⟩
theorem bd24:∀ w,(Instr.build 24 #[]).run Go.Proofs.Tryz.prog w=.ok (.agg (#[.int .i64 0,.int .i64 0,.string ByteArray.empty,.slice none 0 0]:Array Value)) w:=fun w=>by kernel_rfl
theorem KAi:Callee? Go.Proofs.Tryz.prog 108:=KF Go.Proofs.Tryz.func108 (by kernel_rfl) rfl
theorem zl:Callee? Go.Proofs.Tryz.prog 70:=KF Go.Proofs.Tryz.func70 (by kernel_rfl) rfl
theorem qE:Callee? Go.Proofs.Tryz.prog 71:=KF Go.Proofs.Tryz.func71 (by kernel_rfl) rfl
theorem KEF:Callee? Go.Proofs.Tryz.prog 69:=KF Go.Proofs.Tryz.func69 (by kernel_rfl) rfl
theorem KBY:Callee? Go.Proofs.Tryz.prog 125:=KF Go.Proofs.Tryz.func125 (by kernel_rfl) rfl
theorem zm:Callee? Go.Proofs.Tryz.prog 126:=KF Go.Proofs.Tryz.func126 (by kernel_rfl) rfl
theorem WC:Callee? Go.Proofs.Tryz.prog 127:=KF Go.Proofs.Tryz.func127 (by kernel_rfl) rfl
theorem Yg:Callee? Go.Proofs.Tryz.prog 198:=KF Go.Proofs.Tryz.func198 (by kernel_rfl) rfl
theorem Y4:Callee? Go.Proofs.Tryz.prog 201:=KF Go.Proofs.Tryz.func201 (by kernel_rfl) rfl
theorem Yh:Callee? Go.Proofs.Tryz.prog 248:=KF Go.Proofs.Tryz.func248 (by kernel_rfl) rfl
theorem Wc:Callee? Go.Proofs.Tryz.prog 229:=KF Go.Proofs.Tryz.func229 (by kernel_rfl) rfl
theorem YM:Callee? Go.Proofs.Tryz.prog 230:=KF Go.Proofs.Tryz.func230 (by kernel_rfl) rfl
theorem Wd:Callee? Go.Proofs.Tryz.prog 249:=KF Go.Proofs.Tryz.func249 (by kernel_rfl) rfl
theorem Yi:Callee? Go.Proofs.Tryz.prog 247:=KF Go.Proofs.Tryz.func247 (by kernel_rfl) rfl
theorem Yj:Callee? Go.Proofs.Tryz.prog 228:=KF Go.Proofs.Tryz.func228 (by kernel_rfl) rfl
theorem X7:Callee? Go.Proofs.Tryz.prog 227:=KF Go.Proofs.Tryz.func227 (by kernel_rfl) rfl
theorem Yk:Callee? Go.Proofs.Tryz.prog 253:=KF Go.Proofs.Tryz.func253 (by kernel_rfl) rfl
theorem XR:Callee? Go.Proofs.Tryz.prog 158:=KF Go.Proofs.Tryz.func158 (by kernel_rfl) rfl
theorem WD:Callee? Go.Proofs.Tryz.prog 187:=KF Go.Proofs.Tryz.func187 (by kernel_rfl) rfl
theorem Yl:Callee? Go.Proofs.Tryz.prog 155:=KF Go.Proofs.Tryz.func155 (by kernel_rfl) rfl
theorem WF:Callee? Go.Proofs.Tryz.prog 194:=KF Go.Proofs.Tryz.func194 (by kernel_rfl) rfl
theorem zn:Callee? Go.Proofs.Tryz.prog 217:=KF Go.Proofs.Tryz.func217 (by kernel_rfl) rfl
theorem Xn:Callee? Go.Proofs.Tryz.prog 250:=KF Go.Proofs.Tryz.func250 (by kernel_rfl) rfl
theorem Y5:Callee? Go.Proofs.Tryz.prog 259:=KF Go.Proofs.Tryz.func259 (by kernel_rfl) rfl
theorem KBL:Callee? Go.Proofs.Tryz.prog 114:=KF Go.Proofs.Tryz.func114 (by kernel_rfl) rfl
theorem KC7:Callee? Go.Proofs.Tryz.prog 160:=KF Go.Proofs.Tryz.func160 (by kernel_rfl) rfl
theorem KGM:Callee? Go.Proofs.Tryz.prog 109:=KF Go.Proofs.Tryz.func109 (by kernel_rfl) rfl
theorem KGN:Callee? Go.Proofs.Tryz.prog 141:=KF Go.Proofs.Tryz.func141 (by kernel_rfl) rfl
theorem qF:Callee? Go.Proofs.Tryz.prog 53:=KF Go.Proofs.Tryz.func53 (by kernel_rfl) rfl
theorem zo:Callee? Go.Proofs.Tryz.prog 48:=KF Go.Proofs.Tryz.func48 (by kernel_rfl) rfl
theorem Wj:Callee? Go.Proofs.Tryz.prog 38:=KF Go.Proofs.Tryz.func38 (by kernel_rfl) rfl
theorem zp:Callee? Go.Proofs.Tryz.prog 27:=KF Go.Proofs.Tryz.func27 (by kernel_rfl) rfl
theorem qm:Callee? Go.Proofs.Tryz.prog 19:=KF Go.Proofs.Tryz.func19 (by kernel_rfl) rfl
theorem NI:Callee? Go.Proofs.Tryz.prog 54:=KF Go.Proofs.Tryz.func54 (by kernel_rfl) rfl
theorem zq:Callee? Go.Proofs.Tryz.prog 29:=KF Go.Proofs.Tryz.func29 (by kernel_rfl) rfl
theorem zr:Callee? Go.Proofs.Tryz.prog 85:=KF Go.Proofs.Tryz.func85 (by kernel_rfl) rfl
theorem qn:Callee? Go.Proofs.Tryz.prog 86:=KF Go.Proofs.Tryz.func86 (by kernel_rfl) rfl
theorem qo:Callee? Go.Proofs.Tryz.prog 60:=KF Go.Proofs.Tryz.func60 (by kernel_rfl) rfl
theorem KEG:Callee? Go.Proofs.Tryz.prog 56:=KF Go.Proofs.Tryz.func56 (by kernel_rfl) rfl
theorem KCC:Callee? Go.Proofs.Tryz.prog 64:=KF Go.Proofs.Tryz.func64 (by kernel_rfl) rfl
theorem KAj:Callee? Go.Proofs.Tryz.prog 119:=KF Go.Proofs.Tryz.func119 (by kernel_rfl) rfl
theorem KC8:Callee? Go.Proofs.Tryz.prog 49:=KF Go.Proofs.Tryz.func49 (by kernel_rfl) rfl
theorem zt:Callee? Go.Proofs.Tryz.prog 58:=KF Go.Proofs.Tryz.func58 (by kernel_rfl) rfl
theorem qG:Callee? Go.Proofs.Tryz.prog 112:=KF Go.Proofs.Tryz.func112 (by kernel_rfl) rfl
theorem qp:Callee? Go.Proofs.Tryz.prog 51:=KF Go.Proofs.Tryz.func51 (by kernel_rfl) rfl
theorem Nb:Callee? Go.Proofs.Tryz.prog 101:=KF Go.Proofs.Tryz.func101 (by kernel_rfl) rfl
theorem KCD:Callee? Go.Proofs.Tryz.prog 65:=KF Go.Proofs.Tryz.func65 (by kernel_rfl) rfl
theorem GO:Callee? Go.Proofs.Tryz.prog 122:=KF Go.Proofs.Tryz.func122 (by kernel_rfl) rfl
theorem KAk:Callee? Go.Proofs.Tryz.prog 123:=KF Go.Proofs.Tryz.func123 (by kernel_rfl) rfl
theorem Nc:Callee? Go.Proofs.Tryz.prog 94:=KF Go.Proofs.Tryz.func94 (by kernel_rfl) rfl
theorem KC9:Callee? Go.Proofs.Tryz.prog 100:=KF Go.Proofs.Tryz.func100 (by kernel_rfl) rfl
theorem VV:Callee? Go.Proofs.Tryz.prog 78:=KF Go.Proofs.Tryz.func78 (by kernel_rfl) rfl
theorem VG:Callee? Go.Proofs.Tryz.prog 136:=KF Go.Proofs.Tryz.func136 (by kernel_rfl) rfl
theorem VW:Callee? Go.Proofs.Tryz.prog 21:=KF Go.Proofs.Tryz.func21 (by kernel_rfl) rfl
theorem Ub:Callee? Go.Proofs.Tryz.prog 121:=KF Go.Proofs.Tryz.func121 (by kernel_rfl) rfl
theorem Zv:Callee? Go.Proofs.Tryz.prog 73:=KF Go.Proofs.Tryz.func73 (by kernel_rfl) rfl
theorem UY:Callee? Go.Proofs.Tryz.prog 128:=KF Go.Proofs.Tryz.func128 (by kernel_rfl) rfl
theorem Vy:Callee? Go.Proofs.Tryz.prog 159:=KF Go.Proofs.Tryz.func159 (by kernel_rfl) rfl
theorem Ux:Callee? Go.Proofs.Tryz.prog 169:=KF Go.Proofs.Tryz.func169 (by kernel_rfl) rfl
theorem Wp:Callee? Go.Proofs.Tryz.prog 200:=KF Go.Proofs.Tryz.func200 (by kernel_rfl) rfl
theorem U5:Callee? Go.Proofs.Tryz.prog 120:=KF Go.Proofs.Tryz.func120 (by kernel_rfl) rfl
theorem qH:Callee? Go.Proofs.Tryz.prog 156:=KF Go.Proofs.Tryz.func156 (by kernel_rfl) rfl
theorem qq:Callee? Go.Proofs.Tryz.prog 161:=KF Go.Proofs.Tryz.func161 (by kernel_rfl) rfl
theorem qI:Callee? Go.Proofs.Tryz.prog 234:=KF Go.Proofs.Tryz.func234 (by kernel_rfl) rfl
theorem Gl:Callee? Go.Proofs.Tryz.prog 235:=KF Go.Proofs.Tryz.func235 (by kernel_rfl) rfl
theorem Nd:Callee? Go.Proofs.Tryz.prog 233:=KF Go.Proofs.Tryz.func233 (by kernel_rfl) rfl
theorem NJ:Callee? Go.Proofs.Tryz.prog 232:=KF Go.Proofs.Tryz.func232 (by kernel_rfl) rfl
theorem zu:Callee? Go.Proofs.Tryz.prog 202:=KF Go.Proofs.Tryz.func202 (by kernel_rfl) rfl
theorem Gm:Callee? Go.Proofs.Tryz.prog 177:=KF Go.Proofs.Tryz.func177 (by kernel_rfl) rfl
theorem VZ:Callee? Go.Proofs.Tryz.prog 97:=KF Go.Proofs.Tryz.func97 (by kernel_rfl) rfl
theorem Y6:Callee? Go.Proofs.Tryz.prog 96:=KF Go.Proofs.Tryz.func96 (by kernel_rfl) rfl
theorem YN:Callee? Go.Proofs.Tryz.prog 95:=KF Go.Proofs.Tryz.func95 (by kernel_rfl) rfl
theorem Jk:Callee? Go.Proofs.Tryz.prog 150:=KF Go.Proofs.Tryz.func150 (by kernel_rfl) rfl
theorem Gn:Callee? Go.Proofs.Tryz.prog 219:=KF Go.Proofs.Tryz.func219 (by kernel_rfl) rfl
theorem zw:Callee? Go.Proofs.Tryz.prog 72:=KF Go.Proofs.Tryz.func72 (by kernel_rfl) rfl
theorem KBZ:Callee? Go.Proofs.Tryz.prog 55:=KF Go.Proofs.Tryz.func55 (by kernel_rfl) rfl
theorem KDA:Callee? Go.Proofs.Tryz.prog 113:=KF Go.Proofs.Tryz.func113 (by kernel_rfl) rfl
theorem qJ:Callee? Go.Proofs.Tryz.prog 152:=KF Go.Proofs.Tryz.func152 (by kernel_rfl) rfl
theorem Yr:Callee? Go.Proofs.Tryz.prog 242:=KF Go.Proofs.Tryz.func242 (by kernel_rfl) rfl
theorem KCE:Callee? Go.Proofs.Tryz.prog 134:=KF Go.Proofs.Tryz.func134 (by kernel_rfl) rfl
theorem zx:Callee? Go.Proofs.Tryz.prog 34:=KF Go.Proofs.Tryz.func34 (by kernel_rfl) rfl
theorem KDB:Callee? Go.Proofs.Tryz.prog 16:=KF Go.Proofs.Tryz.func16 (by kernel_rfl) rfl
theorem qR:Callee? Go.Proofs.Tryz.prog 39:=KF Go.Proofs.Tryz.func39 (by kernel_rfl) rfl
theorem NA:Callee? Go.Proofs.Tryz.prog 13:=KF Go.Proofs.Tryz.func13 (by kernel_rfl) rfl
theorem KFJ:Callee? Go.Proofs.Tryz.prog 36:=KF Go.Proofs.Tryz.func36 (by kernel_rfl) rfl
theorem KFK:Callee? Go.Proofs.Tryz.prog 26:=KF Go.Proofs.Tryz.func26 (by kernel_rfl) rfl
theorem qS:Callee? Go.Proofs.Tryz.prog 17:=KF Go.Proofs.Tryz.func17 (by kernel_rfl) rfl
theorem zy:Callee? Go.Proofs.Tryz.prog 15:=KF Go.Proofs.Tryz.func15 (by kernel_rfl) rfl
theorem KFL:Callee? Go.Proofs.Tryz.prog 28:=KF Go.Proofs.Tryz.func28 (by kernel_rfl) rfl
theorem zz:Callee? Go.Proofs.Tryz.prog 18:=KF Go.Proofs.Tryz.func18 (by kernel_rfl) rfl
theorem X8:Callee? Go.Proofs.Tryz.prog 171:=KF Go.Proofs.Tryz.func171 (by kernel_rfl) rfl
theorem KFM:Callee? Go.Proofs.Tryz.prog 74:=KF Go.Proofs.Tryz.func74 (by kernel_rfl) rfl
theorem KDC:Callee? Go.Proofs.Tryz.prog 129:=KF Go.Proofs.Tryz.func129 (by kernel_rfl) rfl
theorem KDD:Callee? Go.Proofs.Tryz.prog 133:=KF Go.Proofs.Tryz.func133 (by kernel_rfl) rfl
theorem KEH:Callee? Go.Proofs.Tryz.prog 75:=KF Go.Proofs.Tryz.func75 (by kernel_rfl) rfl
theorem WI:Callee? Go.Proofs.Tryz.prog 175:=KF Go.Proofs.Tryz.func175 (by kernel_rfl) rfl
theorem Gp:Callee? Go.Proofs.Tryz.prog 218:=KF Go.Proofs.Tryz.func218 (by kernel_rfl) rfl
theorem Kz:Callee? Go.Proofs.Tryz.prog 132:=KF Go.Proofs.Tryz.func132 (by kernel_rfl) rfl
theorem Ki:Callee? Go.Proofs.Tryz.prog 170:=KF Go.Proofs.Tryz.func170 (by kernel_rfl) rfl
theorem Ys:Callee? Go.Proofs.Tryz.prog 176:=KF Go.Proofs.Tryz.func176 (by kernel_rfl) rfl
theorem ZS:Callee? Go.Proofs.Tryz.prog 174:=KF Go.Proofs.Tryz.func174 (by kernel_rfl) rfl
theorem Wk:Callee? Go.Proofs.Tryz.prog 172:=KF Go.Proofs.Tryz.func172 (by kernel_rfl) rfl
theorem qt:Callee? Go.Proofs.Tryz.prog 173:=KF Go.Proofs.Tryz.func173 (by kernel_rfl) rfl
theorem VH:Callee? Go.Proofs.Tryz.prog 131:=KF Go.Proofs.Tryz.func131 (by kernel_rfl) rfl
theorem z6:Callee? Go.Proofs.Tryz.prog 76:=KF Go.Proofs.Tryz.func76 (by kernel_rfl) rfl
theorem Ym:KDv Go.Proofs.Tryz.prog 146 0=some 0:=by kernel_rfl
theorem ZU:KDv Go.Proofs.Tryz.prog 146 1=some 1:=by kernel_rfl
theorem KL9:KDv Go.Proofs.Tryz.prog 24 0=some 0:=by kernel_rfl
theorem KOU:KDv Go.Proofs.Tryz.prog 24 3=some 3:=by kernel_rfl
theorem KPT:niB Go.Proofs.Tryz.prog 142=true:=by kernel_rfl
theorem KPU:Xx Go.Proofs.Tryz.prog 142=some [(0,1)]:=by kernel_rfl
theorem pl24:Xx Go.Proofs.Tryz.prog 24=some [(0,1),(1,1),(2,1),(3,1)]:=by kernel_rfl
theorem sc22:scB Go.Proofs.Tryz.prog 22=true:=by kernel_rfl
theorem sc29:scB Go.Proofs.Tryz.prog 29=true:=by kernel_rfl
theorem sc3:scB Go.Proofs.Tryz.prog 3=true:=by kernel_rfl
theorem sc48:scB Go.Proofs.Tryz.prog 48=true:=by kernel_rfl
theorem sc9:scB Go.Proofs.Tryz.prog 9=true:=by kernel_rfl
theorem sz22:szB Go.Proofs.Tryz.prog 22 1=true:=by kernel_rfl
theorem sz24:szB Go.Proofs.Tryz.prog 24 4=true:=by kernel_rfl
theorem sz29:szB Go.Proofs.Tryz.prog 29 1=true:=by kernel_rfl
theorem sz3:szB Go.Proofs.Tryz.prog 3 1=true:=by kernel_rfl
theorem sz5:szB Go.Proofs.Tryz.prog 5 1=true:=by kernel_rfl
theorem sz9:szB Go.Proofs.Tryz.prog 9 1=true:=by kernel_rfl
end Gx
namespace Gx
open Go Go.Proofs Go.Shelf Go.Sort Go.RowKit
set_option linter.unusedVariables false
set_option linter.unusedSimpArgs false
set_option maxRecDepth 100000
def KBM:Go.Shelf.Ren:=⟨fun | 119=>245 | 120=>223 | 125=>167 | 128=>216 | 129=>217 | 137=>242 | 138=>55 | 143=>107 | 151=>182 | 152=>222 | 160=>92 | 195=>105 | 197=>181 | 213=>127 | 217=>194 | 218=>106 | 219=>155 | 224=>196 | 225=>195 | 227=>145 | 228=>180 | 231=>143 | 232=>144 | 233=>146 | 234=>147 | 235=>148 | 236=>149 | 240=>150 | 246=>198 | 247=>201 | 260=>221 | 265=>168 | 266=>225 | 267=>197 | 271=>183 | 276=>184 | 283=>227 | 284=>228 | 285=>229 | 286=>230 | 287=>231 | 314=>226 | 317=>247 | 318=>248 | 319=>249 | 320=>250 | 321=>251 | 322=>252 | 337=>258 | 338=>259 | n=>n,fun | 0=>0 | 2=>2 | 3=>3 | 4=>4 | 5=>5 | 9=>9 | 20=>20 | 21=>21 | 37=>35 | 46=>184 | 51=>215 | 53=>154 | 70=>107 | 72=>109 | 75=>111 | 80=>115 | 105=>191 | 116=>160 | 117=>161 | 119=>238 | 124=>164 | 138=>240 | 139=>241 | 146=>218 | 164=>194 | 167=>225 | 171=>221 | 173=>223 | 175=>226 | 212=>245 | 213=>246 | 232=>258 | 233=>259 | n=>n,fun | 1=>0 | 3=>1 | 4=>2 | 17=>3 | 18=>6 | 19=>7 | n=>n⟩
theorem KEI:Lays.n213 Go.Proofs.Tryz.prog KBM:={
 mixed:=by kernel_rfl
 f213:=Tryz.func127.trans (congrArg some (by kernel_rfl))
 f265:=Tryz.func168.trans (congrArg some (by kernel_rfl))
 t3:=Tryz.underlying3
 a3:=Tryz.isAgg3
 z3:=Tryz.sizeOf3
 v3:=Tryz.zeroValue3
 t9:=Tryz.underlying9
 a9:=Tryz.isAgg9
 z9:=Tryz.sizeOf9
 v9:=Tryz.zeroValue9 }
theorem KEJ:Lays.n219 Go.Proofs.Tryz.prog KBM:={
 mixed:=by kernel_rfl
 f217:=Tryz.func194.trans (congrArg some (by kernel_rfl))
 f219:=Tryz.func155.trans (congrArg some (by kernel_rfl))
 f224:=Tryz.func196.trans (congrArg some (by kernel_rfl))
 f225:=Tryz.func195.trans (congrArg some (by kernel_rfl))
 f266:=Tryz.func225.trans (congrArg some (by kernel_rfl))
 f267:=Tryz.func197.trans (congrArg some (by kernel_rfl))
 f314:=Tryz.func226.trans (congrArg some (by kernel_rfl))
 t3:=Tryz.underlying3
 a3:=Tryz.isAgg3
 z3:=Tryz.sizeOf3
 v3:=Tryz.zeroValue3
 t4:=Tryz.underlying4
 a4:=Tryz.isAgg4
 z4:=Tryz.sizeOf4
 v4:=Tryz.zeroValue4
 t5:=Tryz.underlying5
 a5:=Tryz.isAgg5
 z5:=Tryz.sizeOf5
 v5:=Tryz.zeroValue5
 t9:=Tryz.underlying9
 a9:=Tryz.isAgg9
 z9:=Tryz.sizeOf9
 v9:=Tryz.zeroValue9
 t46:=Tryz.underlying184
 a46:=Tryz.isAgg184
 z46:=Tryz.sizeOf184
 v46:=Tryz.zeroValue184
 t51:=Tryz.underlying215
 a51:=Tryz.isAgg215
 z51:=Tryz.sizeOf215
 v51:=Tryz.zeroValue215
 t146:=Tryz.underlying218
 a146:=Tryz.isAgg218
 z146:=Tryz.sizeOf218
 v146:=Tryz.zeroValue218
 g1:=by kernel_rfl }
theorem KEK:Lays.n217 Go.Proofs.Tryz.prog KBM:={
 mixed:=by kernel_rfl
 f217:=Tryz.func194.trans (congrArg some (by kernel_rfl))
 f266:=Tryz.func225.trans (congrArg some (by kernel_rfl))
 t3:=Tryz.underlying3
 a3:=Tryz.isAgg3
 z3:=Tryz.sizeOf3
 v3:=Tryz.zeroValue3
 t5:=Tryz.underlying5
 a5:=Tryz.isAgg5
 z5:=Tryz.sizeOf5
 v5:=Tryz.zeroValue5
 t9:=Tryz.underlying9
 a9:=Tryz.isAgg9
 z9:=Tryz.sizeOf9
 v9:=Tryz.zeroValue9 }
theorem KDE:LaysC.n247 Go.Proofs.Tryz.prog KBM:={
 mixed:=by kernel_rfl
 f247:=Tryz.func201.trans (congrArg some (by kernel_rfl))
 f287:=Tryz.func231.trans (congrArg some (by kernel_rfl))
 f321:=Tryz.func251.trans (congrArg some (by kernel_rfl))
 f322:=Tryz.func252.trans (congrArg some (by kernel_rfl))
 t0:=Tryz.underlying0
 a0:=Tryz.isAgg0
 z0:=Tryz.sizeOf0
 v0:=Tryz.zeroValue0
 t2:=Tryz.underlying2
 a2:=Tryz.isAgg2
 z2:=Tryz.sizeOf2
 v2:=Tryz.zeroValue2
 t3:=Tryz.underlying3
 a3:=Tryz.isAgg3
 z3:=Tryz.sizeOf3
 v3:=Tryz.zeroValue3
 t4:=Tryz.underlying4
 a4:=Tryz.isAgg4
 z4:=Tryz.sizeOf4
 v4:=Tryz.zeroValue4
 t5:=Tryz.underlying5
 a5:=Tryz.isAgg5
 z5:=Tryz.sizeOf5
 v5:=Tryz.zeroValue5
 t9:=Tryz.underlying9
 a9:=Tryz.isAgg9
 z9:=Tryz.sizeOf9
 v9:=Tryz.zeroValue9
 t21:=Tryz.underlying21
 a21:=Tryz.isAgg21
 z21:=Tryz.sizeOf21
 v21:=Tryz.zeroValue21
 t37:=Tryz.underlying35
 a37:=Tryz.isAgg35
 z37:=Tryz.sizeOf35
 v37:=Tryz.zeroValue35
 t46:=Tryz.underlying184
 a46:=Tryz.isAgg184
 z46:=Tryz.sizeOf184
 v46:=Tryz.zeroValue184
 t53:=Tryz.underlying154
 a53:=Tryz.isAgg154
 z53:=Tryz.sizeOf154
 v53:=Tryz.zeroValue154
 t75:=Tryz.underlying111
 a75:=Tryz.isAgg111
 z75:=Tryz.sizeOf111
 v75:=Tryz.zeroValue111
 t167:=Tryz.underlying225
 a167:=Tryz.isAgg225
 z167:=Tryz.sizeOf225
 v167:=Tryz.zeroValue225
 t175:=Tryz.underlying226
 a175:=Tryz.isAgg226
 z175:=Tryz.sizeOf226
 v175:=Tryz.zeroValue226
 t80:=Tryz.underlying115
 a80:=Tryz.isAgg115
 z80:=Tryz.sizeOf115
 v80:=Tryz.zeroValue115
 i0:=by kernel_rfl
 i2:=by kernel_rfl
 i3:=by kernel_rfl
 i4:=by kernel_rfl
 i5:=by kernel_rfl
 i9:=by kernel_rfl
 i21:=by kernel_rfl
 i37:=by kernel_rfl
 i46:=by kernel_rfl
 i53:=by kernel_rfl
 i75:=by kernel_rfl
 i80:=by kernel_rfl
 i167:=by kernel_rfl
 i175:=by kernel_rfl
 c0:=by kernel_rfl
 c2:=by kernel_rfl
 c3:=by kernel_rfl
 c4:=by kernel_rfl
 c5:=by kernel_rfl
 c9:=by kernel_rfl
 c21:=by kernel_rfl
 c37:=by kernel_rfl
 c46:=by kernel_rfl
 c53:=by kernel_rfl
 c75:=by kernel_rfl
 c80:=by kernel_rfl
 c167:=by kernel_rfl
 c175:=by kernel_rfl }
theorem z7:Lays.n240 Go.Proofs.Tryz.prog KBM:={
 mixed:=by kernel_rfl
 f240:=Tryz.func150.trans (congrArg some (by kernel_rfl))
 f276:=Tryz.func184.trans (congrArg some (by kernel_rfl))
 t0:=Tryz.underlying0
 a0:=Tryz.isAgg0
 z0:=Tryz.sizeOf0
 v0:=Tryz.zeroValue0
 t4:=Tryz.underlying4
 a4:=Tryz.isAgg4
 z4:=Tryz.sizeOf4
 v4:=Tryz.zeroValue4
 t9:=Tryz.underlying9
 a9:=Tryz.isAgg9
 z9:=Tryz.sizeOf9
 v9:=Tryz.zeroValue9
 t20:=Tryz.underlying20
 a20:=Tryz.isAgg20
 z20:=Tryz.sizeOf20
 v20:=Tryz.zeroValue20
 t70:=Tryz.underlying107
 a70:=Tryz.isAgg107
 z70:=Tryz.sizeOf107
 v70:=Tryz.zeroValue107
 t72:=Tryz.underlying109
 a72:=Tryz.isAgg109
 z72:=Tryz.sizeOf109
 v72:=Tryz.zeroValue109
 t164:=Tryz.underlying194
 a164:=Tryz.isAgg194
 z164:=Tryz.sizeOf194
 v164:=Tryz.zeroValue194 }
theorem KDF:LaysM.n246 Go.Proofs.Tryz.prog KBM:={
 mixed:=by kernel_rfl
 f129:=Tryz.func217.trans (congrArg some (by kernel_rfl))
 f246:=Tryz.func198.trans (congrArg some (by kernel_rfl))
 f283:=Tryz.func227.trans (congrArg some (by kernel_rfl))
 f284:=Tryz.func228.trans (congrArg some (by kernel_rfl))
 f285:=Tryz.func229.trans (congrArg some (by kernel_rfl))
 f286:=Tryz.func230.trans (congrArg some (by kernel_rfl))
 f317:=Tryz.func247.trans (congrArg some (by kernel_rfl))
 f318:=Tryz.func248.trans (congrArg some (by kernel_rfl))
 f319:=Tryz.func249.trans (congrArg some (by kernel_rfl))
 f320:=Tryz.func250.trans (congrArg some (by kernel_rfl))
 f337:=Tryz.func258.trans (congrArg some (by kernel_rfl))
 f338:=Tryz.func259.trans (congrArg some (by kernel_rfl))
 t0:=Tryz.underlying0
 a0:=Tryz.isAgg0
 z0:=Tryz.sizeOf0
 v0:=Tryz.zeroValue0
 t2:=Tryz.underlying2
 a2:=Tryz.isAgg2
 z2:=Tryz.sizeOf2
 v2:=Tryz.zeroValue2
 t3:=Tryz.underlying3
 a3:=Tryz.isAgg3
 z3:=Tryz.sizeOf3
 v3:=Tryz.zeroValue3
 t4:=Tryz.underlying4
 a4:=Tryz.isAgg4
 z4:=Tryz.sizeOf4
 v4:=Tryz.zeroValue4
 t5:=Tryz.underlying5
 a5:=Tryz.isAgg5
 z5:=Tryz.sizeOf5
 v5:=Tryz.zeroValue5
 t9:=Tryz.underlying9
 a9:=Tryz.isAgg9
 z9:=Tryz.sizeOf9
 v9:=Tryz.zeroValue9
 t20:=Tryz.underlying20
 a20:=Tryz.isAgg20
 z20:=Tryz.sizeOf20
 v20:=Tryz.zeroValue20
 t37:=Tryz.underlying35
 a37:=Tryz.isAgg35
 z37:=Tryz.sizeOf35
 v37:=Tryz.zeroValue35
 t46:=Tryz.underlying184
 a46:=Tryz.isAgg184
 z46:=Tryz.sizeOf184
 v46:=Tryz.zeroValue184
 t51:=Tryz.underlying215
 a51:=Tryz.isAgg215
 z51:=Tryz.sizeOf215
 v51:=Tryz.zeroValue215
 t53:=Tryz.underlying154
 a53:=Tryz.isAgg154
 z53:=Tryz.sizeOf154
 v53:=Tryz.zeroValue154
 t171:=Tryz.underlying221
 a171:=Tryz.isAgg221
 z171:=Tryz.sizeOf221
 v171:=Tryz.zeroValue221
 t173:=Tryz.underlying223
 a173:=Tryz.isAgg223
 z173:=Tryz.sizeOf223
 v173:=Tryz.zeroValue223
 t212:=Tryz.underlying245
 a212:=Tryz.isAgg245
 z212:=Tryz.sizeOf245
 v212:=Tryz.zeroValue245
 t213:=Tryz.underlying246
 a213:=Tryz.isAgg246
 z213:=Tryz.sizeOf246
 t232:=Tryz.underlying258
 a232:=Tryz.isAgg258
 z232:=Tryz.sizeOf258
 v232:=Tryz.zeroValue258
 t233:=Tryz.underlying259
 a233:=Tryz.isAgg259
 z233:=Tryz.sizeOf259
 v233:=Tryz.zeroValue259
 g17:=by kernel_rfl
 g18:=by kernel_rfl
 g19:=by kernel_rfl
 i0:=by kernel_rfl
 i2:=by kernel_rfl
 i3:=by kernel_rfl
 i4:=by kernel_rfl
 i5:=by kernel_rfl
 i9:=by kernel_rfl
 i20:=by kernel_rfl
 i37:=by kernel_rfl
 i46:=by kernel_rfl
 i51:=by kernel_rfl
 i53:=by kernel_rfl
 i171:=by kernel_rfl
 i173:=by kernel_rfl
 i212:=by kernel_rfl
 i232:=by kernel_rfl
 i233:=by kernel_rfl
 m17:=by kernel_rfl
 m18:=by kernel_rfl
 m19:=by kernel_rfl }
theorem KEL:Lays.n138 Go.Proofs.Tryz.prog KBM:={
 mixed:=by kernel_rfl
 f138:=Tryz.func55.trans (congrArg some (by kernel_rfl))
 f143:=Tryz.func107.trans (congrArg some (by kernel_rfl))
 f195:=Tryz.func105.trans (congrArg some (by kernel_rfl))
 f217:=Tryz.func194.trans (congrArg some (by kernel_rfl))
 f218:=Tryz.func106.trans (congrArg some (by kernel_rfl))
 f219:=Tryz.func155.trans (congrArg some (by kernel_rfl))
 f224:=Tryz.func196.trans (congrArg some (by kernel_rfl))
 f225:=Tryz.func195.trans (congrArg some (by kernel_rfl))
 f266:=Tryz.func225.trans (congrArg some (by kernel_rfl))
 f267:=Tryz.func197.trans (congrArg some (by kernel_rfl))
 f314:=Tryz.func226.trans (congrArg some (by kernel_rfl))
 t0:=Tryz.underlying0
 a0:=Tryz.isAgg0
 z0:=Tryz.sizeOf0
 v0:=Tryz.zeroValue0
 t3:=Tryz.underlying3
 a3:=Tryz.isAgg3
 z3:=Tryz.sizeOf3
 v3:=Tryz.zeroValue3
 t4:=Tryz.underlying4
 a4:=Tryz.isAgg4
 z4:=Tryz.sizeOf4
 v4:=Tryz.zeroValue4
 t5:=Tryz.underlying5
 a5:=Tryz.isAgg5
 z5:=Tryz.sizeOf5
 v5:=Tryz.zeroValue5
 t9:=Tryz.underlying9
 a9:=Tryz.isAgg9
 z9:=Tryz.sizeOf9
 v9:=Tryz.zeroValue9
 t46:=Tryz.underlying184
 a46:=Tryz.isAgg184
 z46:=Tryz.sizeOf184
 v46:=Tryz.zeroValue184
 t51:=Tryz.underlying215
 a51:=Tryz.isAgg215
 z51:=Tryz.sizeOf215
 v51:=Tryz.zeroValue215
 t146:=Tryz.underlying218
 a146:=Tryz.isAgg218
 z146:=Tryz.sizeOf218
 v146:=Tryz.zeroValue218
 g1:=by kernel_rfl }
def Ze (x0 x1:ByteArray):M Int:=M.pure (Lib.compareBytes x0.data.toList x1.data.toList)
theorem We (x0 x1:ByteArray):Kn Go.Proofs.Tryz.prog 127 #[.string x0,.string x1] (fun (r:Int)=>.int .i64 r) (Ze x0 x1):=by
 intro w Q H
 refine (Any.bytealg_CompareString KEI x0 x1 w).mono ?_
 rintro e w' ⟨rfl,rfl⟩
 exact ⟨_,rfl,H,Rest.refl _⟩
def Jz (x0 x1:ByteArray):M Int :=
 ⟨fun h Q=>∃ c:UInt8,x1=⟨#[c]⟩∧Q (Lib.indexByte x0.data.toList c) h,fun hq ⟨c,h1,h2⟩=>⟨c,h1,hq _ _ h2⟩⟩
theorem Y7 (x0 x1:ByteArray):Kn Go.Proofs.Tryz.prog 155 #[.string x0,.string x1] (fun (r:Int)=>.int .i64 r) (Jz x0 x1):=by
 intro w Q ⟨c,h1,h2⟩
 subst h1
 refine (Any.stringslite_Index_one KEJ x0 c w).mono ?_
 rintro e w' ⟨rfl,rfl⟩
 exact ⟨_,rfl,h2,Rest.refl _⟩
def Zf (x0:ByteArray) (x1:Int):M Int:=M.pure (Lib.indexByte x0.data.toList x1.toNat.toUInt8)
theorem Wf (x0:ByteArray) (x1:Int):Kn Go.Proofs.Tryz.prog 194 #[.string x0,.int .u8 x1] (fun (r:Int)=>.int .i64 r) (Zf x0 x1):=by
 intro w Q H
 refine (Any.stringslite_IndexByte KEK x0 x1 w).mono ?_
 rintro e w' ⟨rfl,rfl⟩
 exact ⟨_,rfl,H,Rest.refl _⟩
def UH (x0:ByteArray) (x1:Int) (x2:Int):M (Int × Value) :=
 ⟨fun h Q=>x1=10∧x2=64∧x0.size≤9223372036854775806∧∀ h':Heap,h.size≤h'.size→(∀ i,i < h.size→h'[i]?=h[i]?)→(match Lib.parseIntB 64 x0.data.toList with | .ok v=>Q (v,.nilIface) h' | .range=>Q (Lib.intSat 64 x0.data.toList,.iface 225 (.int .i64 1)) h' | _=>Q (0,.iface 225 (.int .i64 2)) h'),
  fun hq ⟨h0,h1,h2,h3⟩=>⟨h0,h1,h2,fun h' a b=>by have h5:=h3 h' a b; revert h5; cases Lib.parseIntB 64 x0.data.toList <;> exact fun h5=>hq _ _ h5⟩⟩
theorem XS (x0:ByteArray) (x1:Int) (x2:Int):Kn Go.Proofs.Tryz.prog 201 #[.string x0,.int .i64 x1,.int .i64 x2] (fun (r:Int × Value)=>.tuple #[.int .i64 r.1,r.2]) (UH x0 x1 x2):=by
 intro w Q ⟨h0,h1,h2,h4⟩
 subst h0
 subst h1
 refine (Any.internal_strconv_ParseInt_10_all64 KDE x0 h2 w).mono ?_
 rintro e w' ⟨rfl,hw⟩
 have hb:w.heap.size≤w'.heap.size∧(∀ i,i < w.heap.size→w'.heap[i]?=w.heap[i]?)∧Rest w w':=by
  rcases hw with rfl | ⟨t,rfl⟩
  ·exact ⟨Nat.le_refl _,fun _ _=>rfl,Rest.refl _⟩
  ·have hb:=Lib.bytesWorld_below w (5) t
   exact ⟨hb.size,hb.block,⟨hb.os,hb.output,hb.tape,Nat.le_succ w.drawn⟩⟩
 obtain ⟨b1,b2,b3⟩:=hb
 have h5:=h4 _ b1 b2
 cases hp:Lib.parseIntB 64 x0.data.toList <;> (rw [hp] at h5; exact ⟨_,rfl,h5,b3⟩)
def Vm (x0:ByteArray) (x1:ByteArray):M (Option Addr):=M.fail
theorem Ng (x0:ByteArray) (x1:ByteArray):Kn Go.Proofs.Tryz.prog 232 #[.string x0,.string x1] (fun (r:Option Addr)=>.pointer r) (Vm x0 x1):=fun w Q H=>H.elim
def Wq (x0:ByteArray) (x1:ByteArray) (x2:Int):M (Option Addr):=M.fail
theorem qu (x0:ByteArray) (x1:ByteArray) (x2:Int):Kn Go.Proofs.Tryz.prog 234 #[.string x0,.string x1,.int .i64 x2] (fun (r:Option Addr)=>.pointer r) (Wq x0 x1 x2):=fun w Q H=>H.elim
def VX (x0:ByteArray) (x1:ByteArray) (x2:Int):M (Option Addr):=M.fail
theorem NK (x0:ByteArray) (x1:ByteArray) (x2:Int):Kn Go.Proofs.Tryz.prog 235 #[.string x0,.string x1,.int .i64 x2] (fun (r:Option Addr)=>.pointer r) (VX x0 x1 x2):=fun w Q H=>H.elim
theorem KJB:Builder.X72 Go.Proofs.Tryz.prog KBM:={ sizeBuilder:=by kernel_rfl,liesBuilder:=by kernel_rfl }
def Kx (x0:Option Addr):M Unit :=
 ⟨fun h Q=>∃ b p v,x0=some ⟨b,0,none⟩∧h[b]?=some (.cells #[p,v] 109 (0,0))∧((p=.pointer (some ⟨b,0,none⟩)∧Q () h)∨(p=.pointer none∧Q () (hset h ⟨b,0,none⟩ (.pointer (some ⟨b,0,none⟩))))),
  fun hq ⟨b,p,v,h1,h2,h3⟩=>⟨b,p,v,h1,h2,h3.imp (fun ⟨a,c⟩=>⟨a,hq _ _ c⟩) (fun ⟨a,c⟩=>⟨a,hq _ _ c⟩)⟩⟩
theorem Jr (x0:Option Addr):Kn Go.Proofs.Tryz.prog 150 #[.pointer x0] (fun (r:Unit)=>.tuple #[]) (Kx x0):=by
 intro w Q ⟨b,p,v,h1,h2,h3⟩
 subst h1
 have hc:w.cell? ⟨b,0,none⟩=some p:=by rw [KBH]; simp [KN,h2]
 rcases h3 with ⟨rfl,hq⟩ | ⟨rfl,hq⟩
 ·refine (Any.Builder_copyCheck_used z7 KJB b w hc).mono ?_
  rintro e w' ⟨rfl,rfl⟩
  exact ⟨(),rfl,hq,Rest.refl _⟩
 ·refine (Any.Builder_copyCheck_fresh z7 KJB b w hc (by simp [World.shape?,h2]; rfl) (by simp [World.frozen?,h2])).mono ?_
  rintro e w' ⟨rfl,rfl⟩
  exact ⟨(),rfl,hq,⟨rfl,rfl,rfl,Nat.le_refl _⟩⟩
def Vt (h:Heap):Prop:=∃ fz ty,h[3]?=some (.cells (Lib.pow10Tab.map fun z=>Value.int .u64 z).toArray ty fz)
def KCF (x0:Int):M ByteArray :=
 ⟨fun h Q=>-9223372036854775808≤x0∧x0≤9223372036854775807∧Vt h∧∀ h':Heap,h.size≤h'.size→(∀ i,i < h.size→h'[i]?=h[i]?)→Q ⟨(Lib.itoa x0).toArray⟩ h',
  fun hq ⟨h2,h3,h4,h5⟩=>⟨h2,h3,h4,fun h' a b=>hq _ _ (h5 h' a b)⟩⟩
theorem KAl (x0:Int):Kn Go.Proofs.Tryz.prog 198 #[.int .i64 x0,.int .i64 10] (fun (r:ByteArray)=>.string r) (KCF x0):=by
 intro w Q ⟨h2,h3,⟨fz,ty,h4⟩,h5⟩
 refine (Any.internal_strconv_FormatInt_10 KDF x0 h2 h3 w ?_).mono ?_
 ·show w.var? Go.Proofs.Tryz.prog _=_
  have hg:Go.Proofs.Tryz.prog.globalNamed "internal/strconv.uint64pow10"=some 3:=by kernel_rfl
  simp only [World.var?,hg,Option.bind_some,h4]
 ·rintro e w' ⟨rfl,k,os,rfl⟩
  refine ⟨_,rfl,h5 _ ?_ ?_,⟨rfl,rfl,rfl,Nat.le_add_right _ _⟩⟩
  ·show w.heap.size≤(w.heap++os).size
   simp
  ·intro i hi
   show (w.heap++os)[i]?=_
   rw [Array.getElem?_append_left hi]
def X9 (h:Heap):Prop:=∃ cs ty fz,h[7]?=some (.cells cs ty fz)∧cs[15]?=some (.int .u8 4)
def Gr (x0 x1:ByteArray):M Int :=
 ⟨fun h Q=>∃ c:UInt8,x1=⟨#[c]⟩∧Q (Lib.countByte x0.data.toList c) h,fun hq ⟨c,h1,h2⟩=>⟨c,h1,hq _ _ h2⟩⟩
theorem KCG (x0 x1:ByteArray):Kn Go.Proofs.Tryz.prog 55 #[.string x0,.string x1] (fun (r:Int)=>.int .i64 r) (Gr x0 x1):=by
 intro w Q ⟨c,h1,h2⟩
 subst h1
 refine (Any.strings_Count_one KEL x0 c w).mono ?_
 rintro e w' ⟨rfl,rfl⟩
 exact ⟨_,rfl,h2,Rest.refl _⟩
end Gx
namespace Gx
open Go
set_option linter.unusedVariables false
set_option maxRecDepth 100000
def WJ (x0:Sl):M (Bool):=do
 M.pure (decide ((x0.len:Int)≤100))
theorem KAm (x0:Sl):Kn Go.Proofs.Tryz.prog 48 #[(x0:Sl).v] (fun (r:Bool)=>.bool r) (WJ x0) :=
 KM [] [] [.B] [(0,.L x0)] .o Go.Proofs.Tryz.func48 rfl rfl ⟨rfl,trivial⟩ rfl (by kernel_rfl) (by kernel_rfl)
noncomputable def KAn:CalleeS Go.Proofs.Tryz.prog:=mkC ze zo [.L] [.B] (fun (t:Sl)=>WJ t) (fun (t:Sl)=>KAm t)
def Zs (x0:Int) (x1:Int):M (ByteArray):=do
 let Xx3←NQ Go.Proofs.Tryz.prog Jd #[.int .i64 x0,.int .i64 x1] (fun r:ByteArray=>.string r)
 M.pure Xx3
theorem qv (x0:Int) (x1:Int):Kn Go.Proofs.Tryz.prog 156 #[.int .i64 x0,.int .i64 x1] (fun (r:ByteArray)=>.string r) (Zs x0 x1) :=
 KM [mkC Jd Yg [.I .i64,.I .i64] [.S] (fun (t:Int × Int)=>NQ Go.Proofs.Tryz.prog Jd #[.int .i64 t.1,.int .i64 t.2] (fun r:ByteArray=>.string r)) (fun (t:Int × Int)=>U8)] [] [.S] [(0,.I .i64 x0),(1,.I .i64 x1)] .o Go.Proofs.Tryz.func156 rfl rfl ⟨rfl,rfl,trivial⟩ rfl (by kernel_rfl) (by kernel_rfl)
noncomputable def XT:CalleeS Go.Proofs.Tryz.prog:=mkC qC qH [.I .i64,.I .i64] [.S] (fun (t:Int × Int)=>Zs t.1 t.2) (fun (t:Int × Int)=>qv t.1 t.2)
def Xz (x0:Int):M (ByteArray):=do
 let Xx3←Zs x0 10
 M.pure Xx3
theorem KH3 (x0:Int):Kn Go.Proofs.Tryz.prog 109 #[.int .i64 x0] (fun (r:ByteArray)=>.string r) (Xz x0) :=
 KM [XT] [] [.S] [(0,.I .i64 x0)] .o Go.Proofs.Tryz.func109 rfl rfl ⟨rfl,trivial⟩ rfl (by kernel_rfl) (by kernel_rfl)
noncomputable def KDd:CalleeS Go.Proofs.Tryz.prog:=mkC KGJ KGM [.I .i64] [.S] (fun (t:Int)=>Xz t) (fun (t:Int)=>KH3 t)
def KP (x0:Option Addr) (x1:ByteArray):M (Int × Value):=do
 let Xx3←Kx x0
 let Xx5←nilP x0
 let Xx6←ldL ((Xx5).add 1)
 let Xx7←apS K9 Xx6 x1
 let Xx8←nilP x0
 stV ((Xx8).add 1) ((Xx7:Sl).v)
 M.pure ((x1.size:Int),Value.nilIface)
theorem Yn (x0:Option Addr) (x1:ByteArray):Kn Go.Proofs.Tryz.prog 95 #[.pointer x0,.string x1] (fun (r:Int × Value)=>.tuple #[.int .i64 r.1,r.2]) (KP x0 x1) :=
 KM [mkC Jj Jk [.P] [] (fun (t:Option Addr)=>Kx t) (fun (t:Option Addr)=>Jr t)] [0,6,8,9] [.I .i64,.V] [(0,.P x0),(1,.S x1)] .o Go.Proofs.Tryz.func95 rfl rfl ⟨rfl,rfl,trivial⟩ rfl (by kernel_rfl) (by kernel_rfl)
noncomputable def ZO:CalleeS Go.Proofs.Tryz.prog:=mkC YK YN [.P,.S] [.I .i64,.V] (fun (t:Option Addr × ByteArray)=>KP t.1 t.2) (fun (t:Option Addr × ByteArray)=>Yn t.1 t.2)
def KY (x0:Option Addr) (x1:Int):M (Value):=do
 let Xx3←Kx x0
 let Xx5←nilP x0
 let Xx6←ldL ((Xx5).add 1)
 let Xx7←bdL K9 1 #[.int .u8 x1]
 let Xx8←apL K9 1 1 (#[.int .u8 0]:Array Value) Xx6 Xx7
 let Xx9←nilP x0
 stV ((Xx9).add 1) ((Xx8:Sl).v)
 M.pure Value.nilIface
theorem XU (x0:Option Addr) (x1:Int):Kn Go.Proofs.Tryz.prog 96 #[.pointer x0,.int .u8 x1] (fun (r:Value)=>r) (KY x0 x1) :=
 KM [mkC Jj Jk [.P] [] (fun (t:Option Addr)=>Kx t) (fun (t:Option Addr)=>Jr t)] [0,5,7,8] [.V] [(0,.P x0),(1,.I .u8 x1)] .o Go.Proofs.Tryz.func96 rfl rfl ⟨rfl,rfl,trivial⟩ rfl (by kernel_rfl) (by kernel_rfl)
noncomputable def Js:CalleeS Go.Proofs.Tryz.prog:=mkC Y0 Y6 [.P,.I .u8] [.V] (fun (t:Option Addr × Int)=>KY t.1 t.2) (fun (t:Option Addr × Int)=>XU t.1 t.2)
def Ky (x0:Option Addr):M (ByteArray):=do
 let Xx3←nilP x0
 let Xx4←nilP x0
 let Xx5←ldL ((Xx3).add 1)
 let Xx6←ldL ((Xx4).add 1)
 let Xx7←uSD Xx5
 let Xx8←uStr K9 Xx7 (Xx6.len:Int)
 M.pure Xx8
theorem Vu (x0:Option Addr):Kn Go.Proofs.Tryz.prog 97 #[.pointer x0] (fun (r:ByteArray)=>.string r) (Ky x0) :=
 KM [] [0,3,7,8] [.S] [(0,.P x0)] (.q .o (.q (.r [0,1,2,4,8,0,32,64,128,256,528,2047] [0,1,2,4,8,0,32,64,128,256,528,1024] [0,1,3,7,15,0,32,96,224,480,1023,2047] (.pu 0 (.pu 1 (.pu 2 (.pu 5 (.pu 6 (.pu 7 (.pu 3 (.pu 8 (.pu 9 (.st [10,11] (.on 4 (.on 10 (.pu 11 (.nx .dn))))))))))))))) .o)) Go.Proofs.Tryz.func97 rfl rfl ⟨rfl,trivial⟩ rfl (by kernel_rfl) (by kernel_rfl)
noncomputable def JY:CalleeS Go.Proofs.Tryz.prog:=mkC X6 VZ [.P] [.S] (fun (t:Option Addr)=>Ky t) (fun (t:Option Addr)=>Vu t)
def Up (self1:(Int)→M (ByteArray)) (C19:Int):M (ByteArray):=do
 self1 (IntKind.wrap .i64 (C19+1))
def GA (C10:Addr) (C11:Sl) (C12:Int) (self1:(Int)→M (ByteArray)):(Int)→M (ByteArray):=fun s=>match s with
 | Xx9=>do
  M.ite (decide (Xx9 < C12)) (do
   let Xx21←ixL C11 Xx9 1
   let Xx22←ldI .u8 Xx21
   let Xx24←M.ite (decide (Xx22 < 32)) (do
    M.pure true
    ) (do
    M.pure (decide (Xx22 > 126))
    )
   M.ite Xx24 (do
    let Xx26←KP (some C10) (⟨#[92,120]⟩:ByteArray)
    let Xx28←Zs (IntKind.wrap .i64 (iShr .u8 Xx22 4)) 16
    let Xx29←KP (some C10) Xx28
    let Xx30←Zs (IntKind.wrap .i64 (iAnd .u8 Xx22 15)) 16
    let Xx31←KP (some C10) Xx30
    Up self1 Xx9
    ) (do
    let Xx33←M.ite (Xx22 == 39) (do
     M.pure true
     ) (do
     M.pure (Xx22 == 92)
     )
    M.ite Xx33 (do
     let Xx35←KY (some C10) 92
     let Xx36←KY (some C10) Xx22
     Up self1 Xx9
     ) (do
     let Xx37←KY (some C10) Xx22
     Up self1 Xx9
     )
    )
   ) (do
   let Xx39←KY (some C10) 39
   let Xx41←Ky (some C10)
   M.pure Xx41
   )
def XV (x0:ByteArray):M (ByteArray):=do
 let Xx3←mkB ZJ (#[.pointer none,.slice none 0 0]:Array Value)
 let Xx5←KY (some Xx3) 39
 let Xx8←s2b K9 x0
 M.loop (GA Xx3 Xx8 (Xx8.len:Int)) 0
theorem KEM (x0:ByteArray):Kn Go.Proofs.Tryz.prog 133 #[.string x0] (fun (r:ByteArray)=>.string r) (XV x0) :=
 KM [XT,ZO,Js,JY] [] [.S] [(0,.S x0)] (.q .o (.q .o (.q .o (.q (.q .o (.b (.l [(3,.A),(8,.L),(9,.I .i64)] [(10,.I .i64)] (fun (t:Addr × Sl × Int)=>GA t.1 t.2.1 t.2.2) (fun self1=>.q .o (.q .o (.q .o (.j [(3,.A),(8,.L),(9,.I .i64),(10,.I .i64)] (fun (t:Addr × Sl × Int × Int)=>Up self1 t.2.2.2) .o))))))) .o)))) Go.Proofs.Tryz.func133 rfl rfl ⟨rfl,trivial⟩ rfl (by kernel_rfl) (by kernel_rfl)
noncomputable def KEN:CalleeS Go.Proofs.Tryz.prog:=mkC KC6 KDD [.S] [.S] (fun (t:ByteArray)=>XV t) (fun (t:ByteArray)=>KEM t)
def UJ (x0:Option Addr) (x1:Int):M (Unit):=do
 let Xx2←nilP x0
 let Xx3←nilP x0
 let Xx4←ldL ((Xx2).add 1)
 let Xx5←ldL ((Xx3).add 1)
 let Xx6←mnz K9 (IntKind.wrap .i64 ((IntKind.wrap .i64 (2 * (Xx4.cap:Int)))+x1))
 chk (fun h:Heap=>(KN h ((Xx2).add 1)=some ((Xx4:Sl).v))∧(KN h ((Xx3).add 1)=some ((Xx5:Sl).v)))
 let Xx7←slL Xx6 0 (Xx5.len:Int) 1
 let Xx9←nilP x0
 let Xx10←ldL ((Xx9).add 1)
 let Xx11←cpL 1 Xx7 Xx10
 let Xx12←nilP x0
 stV ((Xx12).add 1) ((Xx7:Sl).v)
 M.pure ()
theorem NL (x0:Option Addr) (x1:Int):Kn Go.Proofs.Tryz.prog 219 #[.pointer x0,.int .i64 x1] (fun (r:Unit)=>.tuple #[]) (UJ x0 x1) :=
 KM [KPJ YI #[3] 35 5 Go.Proofs.Tryz.func243 (by kernel_rfl) (by kernel_rfl) (by kernel_rfl) (by kernel_rfl) un35] [0,5,14,21,26] [] [(0,.P x0),(1,.I .i64 x1)] (.q (.r [0,1,2,4,8,16,0,96,128,0,512,1024,2048,4096,8448,32767] [0,1,2,4,8,16,0,96,128,0,512,1024,2048,4096,8448,16384] [0,1,3,7,15,31,0,127,255,0,512,1536,3584,7680,16383,32767] (.pu 0 (.pu 1 (.pu 2 (.pu 6 (.pu 9 (.pu 10 (.pu 11 (.pu 3 (.pu 4 (.pu 5 (.pu 7 (.pu 12 (.pu 13 (.st [14,15] (.on 8 (.pu 14 (.pu 15 (.nx .dn))))))))))))))))))) .o) Go.Proofs.Tryz.func219 rfl rfl ⟨rfl,rfl,trivial⟩ rfl (by kernel_rfl) (by kernel_rfl)
noncomputable def NM:CalleeS Go.Proofs.Tryz.prog:=mkC Gk Gn [.P,.I .i64] [] (fun (t:Option Addr × Int)=>UJ t.1 t.2) (fun (t:Option Addr × Int)=>NL t.1 t.2)
def Jg (x0:Option Addr) (x1:Int):M (Unit):=do
 let Xx2←Kx x0
 M.ite (decide (x1 < 0)) (do
  M.fail
  ) (do
  let Xx6←nilP x0
  let Xx7←nilP x0
  let Xx8←ldL ((Xx6).add 1)
  let Xx9←ldL ((Xx7).add 1)
  M.ite (decide ((IntKind.wrap .i64 ((Xx8.cap:Int) - (Xx9.len:Int))) < x1)) (do
   let Xx10←UJ x0 x1
   M.pure ()
   ) (do
   M.pure ()
   )
  )
theorem NN (x0:Option Addr) (x1:Int):Kn Go.Proofs.Tryz.prog 177 #[.pointer x0,.int .i64 x1] (fun (r:Unit)=>.tuple #[]) (Jg x0 x1) :=
 KM [mkC Jj Jk [.P] [] (fun (t:Option Addr)=>Kx t) (fun (t:Option Addr)=>Jr t),NM] [0,4,9,14,22] [] [(0,.P x0),(1,.I .i64 x1)] (.q .o (.q .o (.q (.r [0,1,2,4,8,0,32,64,128,256,528,0,3072] [0,1,2,4,8,0,32,64,128,256,528,0,3072] [0,1,3,7,15,0,32,96,224,480,1023,0,4095] (.pu 0 (.pu 1 (.pu 2 (.pu 5 (.pu 6 (.pu 7 (.pu 11 (.pu 3 (.pu 4 (.pu 8 (.pu 9 (.pu 10 (.pu 12 (.st [10,12] .dn))))))))))))))) .o))) Go.Proofs.Tryz.func177 rfl rfl ⟨rfl,rfl,trivial⟩ rfl (by kernel_rfl) (by kernel_rfl)
noncomputable def NO:CalleeS Go.Proofs.Tryz.prog:=mkC Gj Gm [.P,.I .i64] [] (fun (t:Option Addr × Int)=>Jg t.1 t.2) (fun (t:Option Addr × Int)=>NN t.1 t.2)
def XW (C43:ByteArray) (C44:Addr) (C45:Sl) (C46:Int) (self2:(Int)→M (ByteArray)):(Int)→M (ByteArray):=fun s=>match s with
 | Xx42=>do
  M.ite (decide (Xx42 < C46)) (do
   let Xx52←ixL C45 Xx42 1
   let Xx53←ldS Xx52
   let Xx55←KP (some C44) C43
   let Xx56←KP (some C44) Xx53
   self2 (IntKind.wrap .i64 (Xx42+1))
   ) (do
   let Xx58←Ky (some C44)
   M.pure Xx58
   )
def XX (C18:Sl) (C19:ByteArray) (C20:Sl) (C21:Int) (self1:(Int × Int)→M (ByteArray)):(Int × Int)→M (ByteArray):=fun s=>match s with
 | (Xx16,Xx17)=>do
  M.ite (decide (Xx17 < C21)) (do
   let Xx27←ixL C20 Xx17 1
   let Xx28←ldS Xx27
   M.ite (decide ((Xx28.size:Int) > (IntKind.wrap .i64 (9223372036854775807 - Xx16)))) (do
    M.fail
    ) (do
    self1 (IntKind.wrap .i64 (Xx16+(Xx28.size:Int)),IntKind.wrap .i64 (Xx17+1))
    )
   ) (do
   let Xx32←mkB ZJ (#[.pointer none,.slice none 0 0]:Array Value)
   let Xx34←Jg (some Xx32) Xx16
   let Xx36←ixL C18 0 1
   let Xx37←ldS Xx36
   let Xx38←KP (some Xx32) Xx37
   let Xx41←slL C18 1 C18.len 1
   M.loop (XW C19 Xx32 Xx41 (Xx41.len:Int)) 0
   )
def WK (C12:Sl) (C13:ByteArray) (Xx11:Int):M (ByteArray):=do
 M.loop (XX C12 C13 C12 (C12.len:Int)) (Xx11,0)
def YO (x0:Sl) (x1:ByteArray):M (ByteArray):=do
 M.ite ((x0.len:Int) == 0) (do
  M.pure ByteArray.empty
  ) (do
  M.ite ((x0.len:Int) == 1) (do
   let Xx8←ixL x0 0 1
   let Xx9←ldS Xx8
   M.pure Xx9
   ) (do
   M.ite (decide ((x1.size:Int) > 0)) (do
    let Xx62←pQuo .i64 9223372036854775807 (IntKind.wrap .i64 ((x0.len:Int) - 1))
    M.ite (decide ((x1.size:Int) ≥ Xx62)) (do
     M.fail
     ) (do
     WK x0 x1 (IntKind.wrap .i64 (0+(IntKind.wrap .i64 ((x1.size:Int) * (IntKind.wrap .i64 ((x0.len:Int) - 1))))))
     )
    ) (do
    WK x0 x1 0
    )
   )
  )
theorem KDG (x0:Sl) (x1:ByteArray):Kn Go.Proofs.Tryz.prog 134 #[(x0:Sl).v,.string x1] (fun (r:ByteArray)=>.string r) (YO x0 x1) :=
 KM [NO,ZO,JY] [] [.S] [(0,.L x0),(1,.S x1)] (.q .o (.q .o (.q .o (.q .o (.j [(0,.L),(1,.S),(5,.I .i64)] (fun (t:Sl × ByteArray × Int)=>WK t.1 t.2.1 t.2.2) (.q (.q .o (.b (.l [(0,.L),(1,.S),(39,.L),(40,.I .i64)] [(5,.I .i64),(41,.I .i64)] (fun (t:Sl × ByteArray × Sl × Int)=>XX t.1 t.2.1 t.2.2.1 t.2.2.2) (fun _=>.o)))) (.q .o (.q .o (.q .o (.q (.q .o (.b (.l [(1,.S),(8,.A),(63,.L),(64,.I .i64)] [(65,.I .i64)] (fun (t:ByteArray × Addr × Sl × Int)=>XW t.1 t.2.1 t.2.2.1 t.2.2.2) (fun _=>.o)))) .o)))))))))) Go.Proofs.Tryz.func134 rfl rfl ⟨rfl,rfl,trivial⟩ rfl (by kernel_rfl) (by kernel_rfl)
noncomputable def KDH:CalleeS Go.Proofs.Tryz.prog:=mkC KCA KCE [.L,.S] [.S] (fun (t:Sl × ByteArray)=>YO t.1 t.2) (fun (t:Sl × ByteArray)=>KDG t.1 t.2)
def WL (self1:(Sl × Int)→M (ByteArray)) (C56:Int) (Xx51:Sl):M (ByteArray):=do
 self1 (Xx51,IntKind.wrap .i64 (C56+1))
def Gt (C44:Int) (C45:Addr) (C46:Sl) (C47:Int) (self1:(Sl × Int)→M (ByteArray)):(Sl × Int)→M (ByteArray):=fun s=>match s with
 | (Xx42,Xx43)=>do
  M.ite (decide (Xx43 < C47)) (do
   let Xx58←ixL C46 Xx43 4
   let Xx59←ldG 4 Xx58
   let Xx60←mkB KB (#[.int .i64 0,.int .i64 0,.string ByteArray.empty,.slice none 0 0]:Array Value)
   M.need (Xx59.size=4)
   stG Xx60 Xx59
   let Xx63←ldG 4 Xx60
   let Xx64←NQ Go.Proofs.Tryz.prog Y3 #[.agg Xx63,.int .i64 (IntKind.wrap .i64 (C44+1))] (fun r:ByteArray=>.string r)
   let Xx66←ldI .i64 ((C45).add 0)
   let Xx67←M.ite (Xx66 == 5) (do
    M.pure ((Int.tmod Xx43 2) == 1)
    ) (do
    M.pure false
    )
   M.ite Xx67 (do
    let Xx68←ixL Xx42 (IntKind.wrap .i64 ((Xx42.len:Int) - 1)) 1
    let Xx69←ldS Xx68
    let Xx70←sCat (⟨#[58,32]⟩:ByteArray) Xx64
    let Xx71←sCat Xx69 Xx70
    let Xx72←ixL Xx42 (IntKind.wrap .i64 ((Xx42.len:Int) - 1)) 1
    stV Xx72 (.string Xx71)
    WL self1 Xx43 Xx42
    ) (do
    let Xx74←bdL VY 1 #[.string Xx64]
    let Xx75←apL VY 1 16 (#[.string ByteArray.empty]:Array Value) Xx42 Xx74
    WL self1 Xx43 Xx75
    )
   ) (do
   let Xx77←YO Xx42 (⟨#[44,32]⟩:ByteArray)
   let Xx80←ldI .i64 ((C45).add 0)
   M.ite (Xx80 == 5) (do
    let Xx82←sCat (⟨#[123]⟩:ByteArray) Xx77
    let Xx83←sCat Xx82 (⟨#[125]⟩:ByteArray)
    M.pure Xx83
    ) (do
    let Xx85←sCat (⟨#[91]⟩:ByteArray) Xx77
    let Xx86←sCat Xx85 (⟨#[93]⟩:ByteArray)
    M.pure Xx86
    )
   )
def WM (C36:Int) (C37:Addr) (Xx35:Bool):M (ByteArray):=do
 M.ite Xx35 (do
  let Xx41←ldL ((C37).add 3)
  M.loop (Gt C36 C37 Xx41 (Xx41.len:Int)) (Sl.nil,0)
  ) (do
  M.pure (⟨#[63]⟩:ByteArray)
  )
def XJ (x0:Array Value) (x1:Int):M (ByteArray):=do
 let Xx2←mkB KB x0
 M.ite (decide (x1 > 8)) (do
  M.pure (⟨#[63]⟩:ByteArray)
  ) (do
  let Xx8←ldI .i64 ((Xx2).add 0)
  M.ite (Xx8 == 1) (do
   let Xx11←ldI .i64 ((Xx2).add 1)
   let Xx12←Xz Xx11
   M.pure Xx12
   ) (do
   M.ite (Xx8 == 2) (do
    let Xx15←ldS ((Xx2).add 2)
    let Xx16←XV Xx15
    M.pure Xx16
    ) (do
    M.ite (Xx8 == 3) (do
     let Xx20←ldI .i64 ((Xx2).add 1)
     M.ite (Xx20 == 1) (do
      M.pure (⟨#[116,114,117,101]⟩:ByteArray)
      ) (do
      M.pure (⟨#[102,97,108,115,101]⟩:ByteArray)
      )
     ) (do
     M.ite (Xx8 == 6) (do
      let Xx25←ldI .i64 ((Xx2).add 1)
      let Xx26←Xz Xx25
      let Xx27←sCat (⟨#[118,91]⟩:ByteArray) Xx26
      let Xx28←sCat Xx27 (⟨#[93]⟩:ByteArray)
      M.pure Xx28
      ) (do
      M.ite (Xx8 == 7) (do
       let Xx31←ldI .i64 ((Xx2).add 1)
       let Xx32←Xz Xx31
       let Xx33←sCat (⟨#[101,91]⟩:ByteArray) Xx32
       let Xx34←sCat Xx33 (⟨#[93]⟩:ByteArray)
       M.pure Xx34
       ) (do
       M.ite (Xx8 == 4) (do
        WM x1 Xx2 (Xx8 == 4)
        ) (do
        WM x1 Xx2 (Xx8 == 5)
        )
       )
      )
     )
    )
   )
  )
theorem KBN (x0:Array Value) (x1:Int):Kn Go.Proofs.Tryz.prog 76 #[.agg x0,.int .i64 x1] (fun (r:ByteArray)=>.string r) (XJ x0 x1) :=
 KM [KDd,KEN,KDH,mkC Y3 z6 [.G,.I .i64] [.S] (fun (t:Array Value × Int)=>NQ Go.Proofs.Tryz.prog Y3 #[.agg t.1,.int .i64 t.2] (fun r:ByteArray=>.string r)) (fun (t:Array Value × Int)=>U8)] [] [.S] [(0,.G x0),(1,.I .i64 x1)] (.q .o (.q .o (.q (.q .o (.b (.q .o (.q .o (.q .o (.q .o (.q .o (.q .o (.q .o (.q .o (.q .o (.q .o (.q .o (.j [(1,.I .i64),(2,.A),(43,.B)] (fun (t:Int × Addr × Bool)=>WM t.1 t.2.1 t.2.2) .o)))))))))))))) (.q .o (.q (.q .o (.b (.l [(1,.I .i64),(2,.A),(47,.L),(48,.I .i64)] [(5,.L),(49,.I .i64)] (fun (t:Int × Addr × Sl × Int)=>Gt t.1 t.2.1 t.2.2.1 t.2.2.2) (fun self1=>.q .o (.q .o (.q .o (.j [(1,.I .i64),(2,.A),(47,.L),(48,.I .i64),(49,.I .i64),(5,.L)] (fun (t:Int × Addr × Sl × Int × Int × Sl)=>WL self1 t.2.2.2.2.1 t.2.2.2.2.2) .o))))))) .o))))) Go.Proofs.Tryz.func76 rfl rfl ⟨rfl,rfl,trivial⟩ rfl (by kernel_rfl) (by kernel_rfl)
noncomputable def KFN:CalleeS Go.Proofs.Tryz.prog:=mkC Y3 z6 [.G,.I .i64] [.S] (fun (t:Array Value × Int)=>XJ t.1 t.2) (fun (t:Array Value × Int)=>KBN t.1 t.2)
def Wr (x0:Array Value):M (ByteArray):=do
 let Xx2←mkB KB x0
 let Xx4←ldG 4 Xx2
 let Xx5←XJ Xx4 1
 M.pure Xx5
theorem KBO (x0:Array Value):Kn Go.Proofs.Tryz.prog 18 #[.agg x0] (fun (r:ByteArray)=>.string r) (Wr x0) :=
 KM [KFN] [] [.S] [(0,.G x0)] .o Go.Proofs.Tryz.func18 rfl rfl ⟨rfl,trivial⟩ rfl (by kernel_rfl) (by kernel_rfl)
noncomputable def Nh:CalleeS Go.Proofs.Tryz.prog:=mkC Y1 zz [.G] [.S] (fun (t:Array Value)=>Wr t) (fun (t:Array Value)=>KBO t)
def Gu (C6:Int) (C7:Sl) (C8:Int) (self1:(Int)→M (Int)):(Int)→M (Int):=fun s=>match s with
 | Xx5=>do
  M.ite (decide (Xx5 < C8)) (do
   let Xx14←ixL C7 Xx5 1
   let Xx15←ldI .i64 Xx14
   M.ite (Xx15 != C6) (do
    M.pure Xx15
    ) (do
    self1 (IntKind.wrap .i64 (Xx5+1))
    )
   ) (do
   M.pure C6
   )
def GP (x0:Sl):M (Int):=do
 M.loop (Gu 0 x0 (x0.len:Int)) 0
theorem KFO (x0:Sl):Kn Go.Proofs.Tryz.prog 69 #[(x0:Sl).v] (fun (r:Int)=>.int .i64 r) (GP x0) :=
 KM [] [] [.I .i64] [(0,.L x0)] (.q .o (.q .o (.q (.q .o (.b (.l [(3,.I .i64),(6,.L),(7,.I .i64)] [(8,.I .i64)] (fun (t:Int × Sl × Int)=>Gu t.1 t.2.1 t.2.2) (fun _=>.o)))) .o))) Go.Proofs.Tryz.func69 rfl rfl ⟨rfl,trivial⟩ rfl (by kernel_rfl) (by kernel_rfl)
noncomputable def KFP:CalleeS Go.Proofs.Tryz.prog:=mkC KED KEF [.L] [.I .i64] (fun (t:Sl)=>GP t) (fun (t:Sl)=>KFO t)
def WN (x0:Int):M (Bool):=do
 M.pure (x0 != x0)
theorem KCH (x0:Int):Kn Go.Proofs.Tryz.prog 125 #[.int .i64 x0] (fun (r:Bool)=>.bool r) (WN x0) :=
 KM [] [] [.B] [(0,.I .i64 x0)] .o Go.Proofs.Tryz.func125 rfl rfl ⟨rfl,trivial⟩ rfl (by kernel_rfl) (by kernel_rfl)
noncomputable def KCI:CalleeS Go.Proofs.Tryz.prog:=mkC KBW KBY [.I .i64] [.B] (fun (t:Int)=>WN t) (fun (t:Int)=>KCH t)
def VI (x0:Int) (x1:Int):M (Int):=do
 let Xx3←WN x0
 let Xx5←WN x1
 M.ite Xx3 (do
  M.ite Xx5 (do
   M.pure 0
   ) (do
   M.pure (-1)
   )
  ) (do
  M.ite Xx5 (do
   M.pure 1
   ) (do
   M.ite (decide (x0 < x1)) (do
    M.pure (-1)
    ) (do
    M.ite (decide (x0 > x1)) (do
     M.pure 1
     ) (do
     M.pure 0
     )
    )
   )
  )
theorem KAo (x0:Int) (x1:Int):Kn Go.Proofs.Tryz.prog 70 #[.int .i64 x0,.int .i64 x1] (fun (r:Int)=>.int .i64 r) (VI x0 x1) :=
 KM [KCI] [] [.I .i64] [(0,.I .i64 x0),(1,.I .i64 x1)] .o Go.Proofs.Tryz.func70 rfl rfl ⟨rfl,rfl,trivial⟩ rfl (by kernel_rfl) (by kernel_rfl)
noncomputable def KAp:CalleeS Go.Proofs.Tryz.prog:=mkC zb zl [.I .i64,.I .i64] [.I .i64] (fun (t:Int × Int)=>VI t.1 t.2) (fun (t:Int × Int)=>KAo t.1 t.2)
def VJ (x0:Int):M (Bool):=do
 M.pure (x0 != x0)
theorem KAq (x0:Int):Kn Go.Proofs.Tryz.prog 126 #[.int .i64 x0] (fun (r:Bool)=>.bool r) (VJ x0) :=
 KM [] [] [.B] [(0,.I .i64 x0)] .o Go.Proofs.Tryz.func126 rfl rfl ⟨rfl,trivial⟩ rfl (by kernel_rfl) (by kernel_rfl)
noncomputable def KAr:CalleeS Go.Proofs.Tryz.prog:=mkC zc zm [.I .i64] [.B] (fun (t:Int)=>VJ t) (fun (t:Int)=>KAq t)
def UP (x0:Int) (x1:Int):M (Int):=do
 let Xx3←VJ x0
 let Xx5←VJ x1
 M.ite Xx3 (do
  M.ite Xx5 (do
   M.pure 0
   ) (do
   M.pure (-1)
   )
  ) (do
  M.ite Xx5 (do
   M.pure 1
   ) (do
   M.ite (decide (x0 < x1)) (do
    M.pure (-1)
    ) (do
    M.ite (decide (x0 > x1)) (do
     M.pure 1
     ) (do
     M.pure 0
     )
    )
   )
  )
theorem qw (x0:Int) (x1:Int):Kn Go.Proofs.Tryz.prog 71 #[.int .i64 x0,.int .i64 x1] (fun (r:Int)=>.int .i64 r) (UP x0 x1) :=
 KM [KAr] [] [.I .i64] [(0,.I .i64 x0),(1,.I .i64 x1)] .o Go.Proofs.Tryz.func71 rfl rfl ⟨rfl,rfl,trivial⟩ rfl (by kernel_rfl) (by kernel_rfl)
noncomputable def qy:CalleeS Go.Proofs.Tryz.prog:=mkC N9 qE [.I .i64,.I .i64] [.I .i64] (fun (t:Int × Int)=>UP t.1 t.2) (fun (t:Int × Int)=>qw t.1 t.2)
def WO (x0:ByteArray) (x1:ByteArray):M (Int):=do
 let Xx3←Ze x0 x1
 M.pure Xx3
theorem KAs (x0:ByteArray) (x1:ByteArray):Kn Go.Proofs.Tryz.prog 72 #[.string x0,.string x1] (fun (r:Int)=>.int .i64 r) (WO x0 x1) :=
 KM [mkC V7 WC [.S,.S] [.I .i64] (fun (t:ByteArray × ByteArray)=>Ze t.1 t.2) (fun (t:ByteArray × ByteArray)=>We t.1 t.2)] [] [.I .i64] [(0,.S x0),(1,.S x1)] .o Go.Proofs.Tryz.func72 rfl rfl ⟨rfl,rfl,trivial⟩ rfl (by kernel_rfl) (by kernel_rfl)
noncomputable def KAt:CalleeS Go.Proofs.Tryz.prog:=mkC zk zw [.S,.S] [.I .i64] (fun (t:ByteArray × ByteArray)=>WO t.1 t.2) (fun (t:ByteArray × ByteArray)=>KAs t.1 t.2)
def Ka (C5:Sl) (C6:Sl) (C7:Value) (C8:Sl) (C9:Int) (self1:(Int)→M (Int)):(Int)→M (Int):=fun s=>match s with
 | Xx4=>do
  M.ite (decide (Xx4 < C9)) (do
   let Xx15←ixL C8 Xx4 4
   let Xx16←ldG 4 Xx15
   let Xx17←mkB KB (#[.int .i64 0,.int .i64 0,.string ByteArray.empty,.slice none 0 0]:Array Value)
   M.need (Xx16.size=4)
   stG Xx17 Xx16
   M.ite (decide (Xx4 ≥ (C6.len:Int))) (do
    M.pure 1
    ) (do
    let Xx23←ixL C6 Xx4 4
    let Xx24←ldG 4 Xx23
    let Xx25←mkB KB (#[.int .i64 0,.int .i64 0,.string ByteArray.empty,.slice none 0 0]:Array Value)
    M.need (Xx24.size=4)
    stG Xx25 Xx24
    let Xx28←ldG 4 Xx17
    let Xx29←ldG 4 Xx25
    let Xx30←VD Go.Proofs.Tryz.prog (fun r:Int=>.int .i64 r) C7 [.agg Xx28,.agg Xx29]
    M.ite (Xx30 != 0) (do
     M.pure Xx30
     ) (do
     self1 (IntKind.wrap .i64 (Xx4+1))
     )
    )
   ) (do
   M.ite (decide ((C5.len:Int) < (C6.len:Int))) (do
    M.pure (-1)
    ) (do
    M.pure 0
    )
   )
def KQ (x0:Sl) (x1:Sl) (x2:Value):M (Int):=do
 M.loop (Ka x0 x1 x2 x0 (x0.len:Int)) 0
theorem Zy (x0:Sl) (x1:Sl) (x2:Value):Kn Go.Proofs.Tryz.prog 73 #[(x0:Sl).v,(x1:Sl).v,x2] (fun (r:Int)=>.int .i64 r) (KQ x0 x1 x2) :=
 KM [] [] [.I .i64] [(0,.L x0),(1,.L x1),(2,.V x2)] (.q .o (.q (.q .o (.b (.l [(0,.L),(1,.L),(2,.V),(11,.L),(12,.I .i64)] [(13,.I .i64)] (fun (t:Sl × Sl × Value × Sl × Int)=>Ka t.1 t.2.1 t.2.2.1 t.2.2.2.1 t.2.2.2.2) (fun _=>.o)))) .o)) Go.Proofs.Tryz.func73 rfl rfl ⟨rfl,rfl,rfl,trivial⟩ rfl (by kernel_rfl) (by kernel_rfl)
noncomputable def Zz:CalleeS Go.Proofs.Tryz.prog:=mkC Zu Zv [.L,.L,.V] [.I .i64] (fun (t:Sl × Sl × Value)=>KQ t.1 t.2.1 t.2.2) (fun (t:Sl × Sl × Value)=>Zy t.1 t.2.1 t.2.2)
def UC (x0:Array Value) (x1:Array Value):M (Int):=do
 let Xx2←mkB KB x0
 let Xx3←mkB KB x1
 let Xx5←ldI .i64 ((Xx2).add 0)
 let Xx6←ldI .i64 ((Xx3).add 0)
 let Xx7←ldI .i64 ((Xx2).add 1)
 let Xx8←ldI .i64 ((Xx3).add 1)
 let Xx9←ldS ((Xx2).add 2)
 let Xx10←ldS ((Xx3).add 2)
 let Xx11←ldL ((Xx2).add 3)
 let Xx12←ldL ((Xx3).add 3)
 let Xx13←VI Xx5 Xx6
 chk (fun h:Heap=>(KN h ((Xx2).add 0)=some (.int .i64 Xx5))∧(KN h ((Xx3).add 0)=some (.int .i64 Xx6))∧(KN h ((Xx2).add 1)=some (.int .i64 Xx7))∧(KN h ((Xx3).add 1)=some (.int .i64 Xx8))∧(KN h ((Xx2).add 2)=some (.string Xx9))∧(KN h ((Xx3).add 2)=some (.string Xx10))∧(KN h ((Xx2).add 3)=some ((Xx11:Sl).v))∧(KN h ((Xx3).add 3)=some ((Xx12:Sl).v)))
 let Xx14←UP Xx7 Xx8
 chk (fun h:Heap=>(KN h ((Xx2).add 0)=some (.int .i64 Xx5))∧(KN h ((Xx3).add 0)=some (.int .i64 Xx6))∧(KN h ((Xx2).add 1)=some (.int .i64 Xx7))∧(KN h ((Xx3).add 1)=some (.int .i64 Xx8))∧(KN h ((Xx2).add 2)=some (.string Xx9))∧(KN h ((Xx3).add 2)=some (.string Xx10))∧(KN h ((Xx2).add 3)=some ((Xx11:Sl).v))∧(KN h ((Xx3).add 3)=some ((Xx12:Sl).v)))
 let Xx15←WO Xx9 Xx10
 chk (fun h:Heap=>(KN h ((Xx2).add 0)=some (.int .i64 Xx5))∧(KN h ((Xx3).add 0)=some (.int .i64 Xx6))∧(KN h ((Xx2).add 1)=some (.int .i64 Xx7))∧(KN h ((Xx3).add 1)=some (.int .i64 Xx8))∧(KN h ((Xx2).add 2)=some (.string Xx9))∧(KN h ((Xx3).add 2)=some (.string Xx10))∧(KN h ((Xx2).add 3)=some ((Xx11:Sl).v))∧(KN h ((Xx3).add 3)=some ((Xx12:Sl).v)))
 let Xx16←KQ Xx11 Xx12 (Value.func (.func Zp) #[] #[])
 let Xx17←bdL WB 4 #[.int .i64 Xx13,.int .i64 Xx14,.int .i64 Xx15,.int .i64 Xx16]
 let Xx18←GP Xx17
 M.pure Xx18
theorem XY (x0:Array Value) (x1:Array Value):Kn Go.Proofs.Tryz.prog 13 #[.agg x0,.agg x1] (fun (r:Int)=>.int .i64 r) (UC x0 x1) :=
 KM [KFP,KAp,qy,KAt,Zz] [] [.I .i64] [(0,.G x0),(1,.G x1)] (.q .o (.q (.r [0,1,0,4,10,0,32,0,128,336,0,1024,0,4096,10752,0,32768,0,131072,344064,541200,1572864,4194303] [0,1,0,4,10,0,32,0,128,320,0,1024,0,4096,10240,0,32768,0,131072,327680,541200,1048576,2097152] [0,1,0,4,15,0,32,0,128,511,0,1024,0,4096,16383,0,32768,0,131072,524287,1048575,2097151,4194303] (.pu 0 (.pu 2 (.pu 5 (.pu 7 (.pu 10 (.pu 12 (.pu 15 (.pu 17 (.pu 1 (.pu 3 (.pu 6 (.pu 8 (.pu 11 (.pu 13 (.pu 16 (.pu 18 (.st [19,20,21,22] (.on 4 (.on 9 (.on 14 (.on 19 (.on 20 (.on 21 (.pu 22 (.nx .dn)))))))))))))))))))))))))) .o)) Go.Proofs.Tryz.func13 rfl rfl ⟨rfl,rfl,trivial⟩ rfl (by kernel_rfl) (by kernel_rfl)
noncomputable def XZ:CalleeS Go.Proofs.Tryz.prog:=mkC Zp NA [.G,.G] [.I .i64] (fun (t:Array Value × Array Value)=>UC t.1 t.2) (fun (t:Array Value × Array Value)=>XY t.1 t.2)
def ZV (C5:Sl) (C6:Value) (C7:Int) (self1:(Int)→M (Int)):(Int)→M (Int):=fun s=>match s with
 | Xx4=>do
  M.ite (decide (Xx4 < C7)) (do
   let Xx14←ixL C5 Xx4 4
   let Xx15←ldG 4 Xx14
   let Xx16←VD Go.Proofs.Tryz.prog (fun r:Bool=>.bool r) C6 [.agg Xx15]
   M.ite Xx16 (do
    M.pure Xx4
    ) (do
    self1 (IntKind.wrap .i64 (Xx4+1))
    )
   ) (do
   M.pure (-1)
   )
def ZE (x0:Sl) (x1:Value):M (Int):=do
 M.loop (ZV x0 x1 (x0.len:Int)) 0
theorem U6 (x0:Sl) (x1:Value):Kn Go.Proofs.Tryz.prog 169 #[(x0:Sl).v,x1] (fun (r:Int)=>.int .i64 r) (ZE x0 x1) :=
 KM [] [] [.I .i64] [(0,.L x0),(1,.V x1)] (.q .o (.q (.q .o (.b (.l [(0,.L),(1,.V),(7,.I .i64)] [(8,.I .i64)] (fun (t:Sl × Value × Int)=>ZV t.1 t.2.1 t.2.2) (fun _=>.o)))) .o)) Go.Proofs.Tryz.func169 rfl rfl ⟨rfl,rfl,trivial⟩ rfl (by kernel_rfl) (by kernel_rfl)
noncomputable def U7:CalleeS Go.Proofs.Tryz.prog:=mkC Uw Ux [.L,.V] [.I .i64] (fun (t:Sl × Value)=>ZE t.1 t.2) (fun (t:Sl × Value)=>U6 t.1 t.2)
def Kf (x0:Sl) (x1:Value):M (Bool):=do
 let Xx3←ZE x0 x1
 M.pure (decide (Xx3 ≥ 0))
theorem Uc (x0:Sl) (x1:Value):Kn Go.Proofs.Tryz.prog 128 #[(x0:Sl).v,x1] (fun (r:Bool)=>.bool r) (Kf x0 x1) :=
 KM [U7] [] [.B] [(0,.L x0),(1,.V x1)] .o Go.Proofs.Tryz.func128 rfl rfl ⟨rfl,rfl,trivial⟩ rfl (by kernel_rfl) (by kernel_rfl)
noncomputable def Ud:CalleeS Go.Proofs.Tryz.prog:=mkC UX UY [.L,.V] [.B] (fun (t:Sl × Value)=>Kf t.1 t.2) (fun (t:Sl × Value)=>Uc t.1 t.2)
def YP (C12:Addr) (C13:Addr):M (Bool):=do
 let Xx15←ldI .i64 ((C12).add 1)
 let Xx16←M.ite (Xx15 == 0) (do
  let Xx17←ldS ((C12).add 2)
  M.pure (sEq Xx17 ByteArray.empty)
  ) (do
  M.pure false
  )
 let Xx18←M.ite Xx16 (do
  let Xx19←ldL ((C12).add 3)
  let Xx20←Kf Xx19 (Value.func (.func KC5) #[] #[.pointer (some C13)])
  M.pure (!Xx20)
  ) (do
  M.pure false
  )
 M.pure Xx18
def Ni (C61:Addr) (C62:Addr) (self1:(Int)→M (Bool)):(Int)→M (Bool):=fun s=>match s with
 | Xx60=>do
  let Xx66←ldL ((C61).add 3)
  M.ite (decide (Xx60 < (Xx66.len:Int))) (do
   let Xx69←ldL ((C61).add 3)
   let Xx70←ixL Xx69 (IntKind.wrap .i64 (Xx60 - 2)) 4
   let Xx71←ldG 4 Xx70
   let Xx72←ldL ((C61).add 3)
   let Xx73←ixL Xx72 Xx60 4
   let Xx74←ldG 4 Xx73
   let Xx75←UC Xx71 Xx74
   M.ite (decide (Xx75 ≥ 0)) (do
    M.pure false
    ) (do
    self1 (IntKind.wrap .i64 (Xx60+2))
    )
   ) (do
   YP C61 C62
   )
def YQ (C32:Addr) (C33:Addr) (C34:Bool) (C35:Int) (Xx31:Bool):M (Bool):=do
 M.ite Xx31 (do
  let Xx37←M.ite C34 (do
   let Xx38←ldI .i64 ((C32).add 1)
   M.pure (decide (Xx38 ≥ 1))
   ) (do
   M.pure false
   )
  let Xx39←M.ite Xx37 (do
   let Xx40←ldI .i64 ((C32).add 1)
   M.pure (decide (Xx40≤281474976710656))
   ) (do
   M.pure false
   )
  M.pure Xx39
  ) (do
  M.ite (C35 == 2) (do
   let Xx43←ldI .i64 ((C32).add 1)
   let Xx44←M.ite (Xx43 == 0) (do
    let Xx45←ldL ((C32).add 3)
    M.pure ((Xx45.len:Int) == 0)
    ) (do
    M.pure false
    )
   let Xx46←M.ite Xx44 (do
    let Xx47←ldS ((C32).add 2)
    M.pure (decide ((Xx47.size:Int)≤128))
    ) (do
    M.pure false
    )
   M.pure Xx46
   ) (do
   M.ite (C35 == 4) (do
    let Xx50←ldL ((C32).add 3)
    M.ite (decide ((Xx50.len:Int) > 256)) (do
     M.pure false
     ) (do
     YP C32 C33
     )
    ) (do
    M.ite (C35 == 5) (do
     let Xx55←ldL ((C32).add 3)
     let Xx56←M.ite (decide ((Xx55.len:Int) > 512)) (do
      M.pure true
      ) (do
      let Xx57←ldL ((C32).add 3)
      M.pure ((Int.tmod (Xx57.len:Int) 2) == 1)
      )
     M.ite Xx56 (do
      M.pure false
      ) (do
      M.loop (Ni C32 C33) 2
      )
     ) (do
     M.pure false
     )
    )
   )
  )
def Xa (x0:Array Value) (x1:Int):M (Bool):=do
 let Xx2←mkB KB x0
 let Xx3←mkB WB #[.int .i64 x1]
 let Xx6←ldI .i64 Xx3
 M.ite (decide (Xx6 > 8)) (do
  M.pure false
  ) (do
  let Xx9←ldS ((Xx2).add 2)
  let Xx10←M.ite (sEq Xx9 ByteArray.empty) (do
   let Xx11←ldL ((Xx2).add 3)
   M.pure ((Xx11.len:Int) == 0)
   ) (do
   M.pure false
   )
  let Xx22←ldI .i64 ((Xx2).add 0)
  M.ite (Xx22 == 1) (do
   M.pure Xx10
   ) (do
   M.ite (Xx22 == 3) (do
    let Xx27←M.ite Xx10 (do
     let Xx28←ldI .i64 ((Xx2).add 1)
     let Xx29←M.ite (Xx28 == 0) (do
      M.pure true
      ) (do
      let Xx30←ldI .i64 ((Xx2).add 1)
      M.pure (Xx30 == 1)
      )
     M.pure Xx29
     ) (do
     M.pure false
     )
    M.pure Xx27
    ) (do
    M.ite (Xx22 == 6) (do
     YQ Xx2 Xx3 Xx10 Xx22 (Xx22 == 6)
     ) (do
     YQ Xx2 Xx3 Xx10 Xx22 (Xx22 == 7)
     )
    )
   )
  )
theorem KGO (x0:Array Value) (x1:Int):Kn Go.Proofs.Tryz.prog 74 #[.agg x0,.int .i64 x1] (fun (r:Bool)=>.bool r) (Xa x0 x1) :=
 KM [Ud,XZ] [] [.B] [(0,.G x0),(1,.I .i64 x1)] (.q .o (.q .o (.q .o (.q (.q .o (.b (.q .o (.q .o (.q .o (.q .o (.q .o (.j [(2,.A),(3,.A),(5,.B),(19,.I .i64),(36,.B)] (fun (t:Addr × Addr × Bool × Int × Bool)=>YQ t.1 t.2.1 t.2.2.1 t.2.2.2.1 t.2.2.2.2) (.q .o (.q .o (.q .o (.q .o (.q .o (.q .o (.q (.q .o (.q .o (.b (.l [(2,.A),(3,.A)] [(6,.I .i64)] (fun (t:Addr × Addr)=>Ni t.1 t.2) (fun _=>.q .o (.q (.b (.q (.r [0,1,0,4,10,16,0,64,0,384,512,1056,2048] [0,1,0,4,10,16,0,64,0,384,512,1056,2048] [0,1,0,4,15,31,0,64,0,448,960,2047,4095] (.pu 0 (.pu 2 (.pu 3 (.pu 6 (.pu 8 (.pu 1 (.pu 4 (.pu 5 (.pu 7 (.pu 9 (.pu 10 (.st [11,12] (.on 11 (.pu 12 (.nx .dn)))))))))))))))) .o)) .o)))))) .o))))))))))))))) (.j [(2,.A),(3,.A)] (fun (t:Addr × Addr)=>YP t.1 t.2) .o))))) Go.Proofs.Tryz.func74 rfl rfl ⟨rfl,rfl,trivial⟩ rfl (by kernel_rfl) (by kernel_rfl)
noncomputable def KCJ:CalleeS Go.Proofs.Tryz.prog:=mkC KFI KFM [.G,.I .i64] [.B] (fun (t:Array Value × Int)=>Xa t.1 t.2) (fun (t:Array Value × Int)=>KGO t.1 t.2)
def Vn (x0:Array Value):M (Int):=do
 let Xx2←mkB KB x0
 let Xx5←ldG 4 Xx2
 let Xx6←Xa Xx5 1
 M.ite (!Xx6) (do
  M.pure 20
  ) (do
  M.pure 0
  )
theorem KEO (x0:Array Value):Kn Go.Proofs.Tryz.prog 16 #[.agg x0] (fun (r:Int)=>.int .i64 r) (Vn x0) :=
 KM [KCJ] [] [.I .i64] [(0,.G x0)] .o Go.Proofs.Tryz.func16 rfl rfl ⟨rfl,trivial⟩ rfl (by kernel_rfl) (by kernel_rfl)
noncomputable def Gv:CalleeS Go.Proofs.Tryz.prog:=mkC KC3 KDB [.G] [.I .i64] (fun (t:Array Value)=>Vn t) (fun (t:Array Value)=>KEO t)
def Xb (C5:Sl) (C6:Int) (self1:(Int)→M (Int)):(Int)→M (Int):=fun s=>match s with
 | Xx4=>do
  M.ite (decide (Xx4 < C6)) (do
   let Xx12←ixL C5 Xx4 4
   let Xx13←ldG 4 Xx12
   let Xx14←mkB KB (#[.int .i64 0,.int .i64 0,.string ByteArray.empty,.slice none 0 0]:Array Value)
   M.need (Xx13.size=4)
   stG Xx14 Xx13
   let Xx17←ldG 4 Xx14
   let Xx18←Vn Xx17
   M.ite (Xx18 != 0) (do
    M.pure Xx18
    ) (do
    self1 (IntKind.wrap .i64 (Xx4+1))
    )
   ) (do
   M.pure 0
   )
def Vv (x0:Sl):M (Int):=do
 M.loop (Xb x0 (x0.len:Int)) 0
theorem qT (x0:Sl):Kn Go.Proofs.Tryz.prog 94 #[(x0:Sl).v] (fun (r:Int)=>.int .i64 r) (Vv x0) :=
 KM [Gv] [] [.I .i64] [(0,.L x0)] (.q .o (.q (.q .o (.b (.l [(6,.L),(7,.I .i64)] [(8,.I .i64)] (fun (t:Sl × Int)=>Xb t.1 t.2) (fun _=>.o)))) .o)) Go.Proofs.Tryz.func94 rfl rfl ⟨rfl,trivial⟩ rfl (by kernel_rfl) (by kernel_rfl)
noncomputable def KDI:CalleeS Go.Proofs.Tryz.prog:=mkC KB9 Nc [.L] [.I .i64] (fun (t:Sl)=>Vv t) (fun (t:Sl)=>qT t)
def GB (C12:Addr) (C13:Sl) (C14:Int) (self1:(Int)→M (ByteArray × Int)):(Int)→M (ByteArray × Int):=fun s=>match s with
 | Xx11=>do
  M.ite (decide (Xx11 < C14)) (do
   let Xx20←ixL C13 Xx11 4
   let Xx21←ldG 4 Xx20
   let Xx22←mkB KB (#[.int .i64 0,.int .i64 0,.string ByteArray.empty,.slice none 0 0]:Array Value)
   M.need (Xx21.size=4)
   stG Xx22 Xx21
   let Xx25←ldG 4 Xx22
   let Xx26←Wr Xx25
   let Xx27←KP (some C12) Xx26
   let Xx28←KY (some C12) 10
   self1 (IntKind.wrap .i64 (Xx11+1))
   ) (do
   let Xx30←Ky (some C12)
   M.pure (Xx30,0)
   )
def Ue (x0:Sl):M (ByteArray × Int):=do
 let Xx4←Vv x0
 M.ite (Xx4 != 0) (do
  M.pure (ByteArray.empty,Xx4)
  ) (do
  let Xx8←mkB ZJ (#[.pointer none,.slice none 0 0]:Array Value)
  M.loop (GB Xx8 x0 (x0.len:Int)) 0
  )
theorem KEP (x0:Sl):Kn Go.Proofs.Tryz.prog 49 #[(x0:Sl).v] (fun (r:ByteArray × Int)=>.tuple #[.string r.1,.int .i64 r.2]) (Ue x0) :=
 KM [Nh,KDI,ZO,Js,JY] [] [.S,.I .i64] [(0,.L x0)] (.q .o (.q .o (.q .o (.q (.q .o (.b (.l [(5,.A),(13,.L),(14,.I .i64)] [(15,.I .i64)] (fun (t:Addr × Sl × Int)=>GB t.1 t.2.1 t.2.2) (fun _=>.o)))) .o)))) Go.Proofs.Tryz.func49 rfl rfl ⟨rfl,trivial⟩ rfl (by kernel_rfl) (by kernel_rfl)
noncomputable def z8:CalleeS Go.Proofs.Tryz.prog:=mkC KC0 KC8 [.L] [.S,.I .i64] (fun (t:Sl)=>Ue t) (fun (t:Sl)=>KEP t)
def ZY (x0:Int) (x1:Int):M (Int):=do
 M.ite (decide (x0 < x1)) (do
  M.pure (-1)
  ) (do
  M.ite (decide (x0 > x1)) (do
   M.pure 1
   ) (do
   M.pure 0
   )
  )
theorem KAu (x0:Int) (x1:Int):Kn Go.Proofs.Tryz.prog 85 #[.int .i64 x0,.int .i64 x1] (fun (r:Int)=>.int .i64 r) (ZY x0 x1) :=
 KM [] [] [.I .i64] [(0,.I .i64 x0),(1,.I .i64 x1)] .o Go.Proofs.Tryz.func85 rfl rfl ⟨rfl,rfl,trivial⟩ rfl (by kernel_rfl) (by kernel_rfl)
noncomputable def GQ:CalleeS Go.Proofs.Tryz.prog:=mkC zh zr [.I .i64,.I .i64] [.I .i64] (fun (t:Int × Int)=>ZY t.1 t.2) (fun (t:Int × Int)=>KAu t.1 t.2)
def Vo (C5:ByteArray) (C6:ByteArray) (self1:(Int)→M (Int)):(Int)→M (Int):=fun s=>match s with
 | Xx4=>do
  let Xx10←M.ite (decide (Xx4 < (C5.size:Int))) (do
   M.pure (decide (Xx4 < (C6.size:Int)))
   ) (do
   M.pure false
   )
  M.ite Xx10 (do
   let Xx13←ixS C5 Xx4
   let Xx14←ixS C6 Xx4
   M.ite (Xx13 != Xx14) (do
    let Xx16←ixS C5 Xx4
    let Xx17←ixS C6 Xx4
    let Xx18←ZY (IntKind.wrap .i64 Xx16) (IntKind.wrap .i64 Xx17)
    M.pure Xx18
    ) (do
    self1 (IntKind.wrap .i64 (Xx4+1))
    )
   ) (do
   let Xx20←ZY (C5.size:Int) (C6.size:Int)
   M.pure Xx20
   )
def Uh (x0:ByteArray) (x1:ByteArray):M (Int):=do
 M.loop (Vo x0 x1) 0
theorem KAA (x0:ByteArray) (x1:ByteArray):Kn Go.Proofs.Tryz.prog 86 #[.string x0,.string x1] (fun (r:Int)=>.int .i64 r) (Uh x0 x1) :=
 KM [GQ] [] [.I .i64] [(0,.S x0),(1,.S x1)] (.q .o (.q (.q .o (.b (.l [(0,.S),(1,.S)] [(5,.I .i64)] (fun (t:ByteArray × ByteArray)=>Vo t.1 t.2) (fun _=>.q .o (.q (.b (.q (.r [0,0,3,0,0,24,36] [0,0,3,0,0,24,36] [0,0,3,0,0,24,63] (.pu 0 (.pu 1 (.pu 2 (.pu 3 (.pu 4 (.pu 5 (.pu 6 (.st [0,1,2,3,4,5,6] .dn))))))))) (.q (.q (.r [0,0,3,4,0,0,48,64,136,511] [0,0,3,4,0,0,48,64,136,256] [0,0,3,7,0,0,48,112,255,511] (.pu 0 (.pu 1 (.pu 2 (.pu 3 (.pu 4 (.pu 5 (.pu 6 (.pu 7 (.st [0,1,2,3,4,5,6,7,8,9] (.on 8 (.pu 9 (.nx .dn))))))))))))) .o) .o))) .o))))) .o)) Go.Proofs.Tryz.func86 rfl rfl ⟨rfl,rfl,trivial⟩ rfl (by kernel_rfl) (by kernel_rfl)
noncomputable def KAB:CalleeS Go.Proofs.Tryz.prog:=mkC qg qn [.S,.S] [.I .i64] (fun (t:ByteArray × ByteArray)=>Uh t.1 t.2) (fun (t:ByteArray × ByteArray)=>KAA t.1 t.2)
def Uy (C28:Addr) (C29:Addr) (self1:(Int)→M (Int)):(Int)→M (Int):=fun s=>match s with
 | Xx27=>do
  let Xx33←ldL ((C28).add 3)
  let Xx34←M.ite (decide (Xx27 < (Xx33.len:Int))) (do
   let Xx35←ldL ((C29).add 3)
   M.pure (decide (Xx27 < (Xx35.len:Int)))
   ) (do
   M.pure false
   )
  M.ite Xx34 (do
   let Xx38←ldL ((C28).add 3)
   let Xx39←ixL Xx38 Xx27 4
   let Xx40←ldG 4 Xx39
   let Xx41←ldL ((C29).add 3)
   let Xx42←ixL Xx41 Xx27 4
   let Xx43←ldG 4 Xx42
   let Xx44←NQ Go.Proofs.Tryz.prog Jw #[.agg Xx40,.agg Xx43] (fun r:Int=>.int .i64 r)
   M.ite (Xx44 != 0) (do
    M.pure Xx44
    ) (do
    self1 (IntKind.wrap .i64 (Xx27+1))
    )
   ) (do
   let Xx48←ldL ((C28).add 3)
   let Xx49←ldL ((C29).add 3)
   let Xx50←ZY (Xx48.len:Int) (Xx49.len:Int)
   M.pure Xx50
   )
def JI (x0:Array Value) (x1:Array Value):M (Int):=do
 let Xx2←mkB KB x0
 let Xx3←mkB KB x1
 let Xx6←ldI .i64 ((Xx2).add 0)
 let Xx7←ldI .i64 ((Xx3).add 0)
 let Xx8←ZY Xx6 Xx7
 M.ite (Xx8 != 0) (do
  M.pure Xx8
  ) (do
  let Xx13←ldI .i64 ((Xx2).add 1)
  let Xx14←ldI .i64 ((Xx3).add 1)
  let Xx15←ZY Xx13 Xx14
  M.ite (Xx15 != 0) (do
   M.pure Xx15
   ) (do
   let Xx20←ldS ((Xx2).add 2)
   let Xx21←ldS ((Xx3).add 2)
   let Xx22←Uh Xx20 Xx21
   M.ite (Xx22 != 0) (do
    M.pure Xx22
    ) (do
    M.loop (Uy Xx2 Xx3) 0
    )
   )
  )
theorem YR (x0:Array Value) (x1:Array Value):Kn Go.Proofs.Tryz.prog 38 #[.agg x0,.agg x1] (fun (r:Int)=>.int .i64 r) (JI x0 x1) :=
 KM [mkC Jw Wj [.G,.G] [.I .i64] (fun (t:Array Value × Array Value)=>NQ Go.Proofs.Tryz.prog Jw #[.agg t.1,.agg t.2] (fun r:Int=>.int .i64 r)) (fun (t:Array Value × Array Value)=>U8),GQ,KAB] [] [.I .i64] [(0,.G x0),(1,.G x1)] (.q .o (.q .o (.q .o (.q .o (.q (.q .o (.b (.l [(2,.A),(3,.A)] [(8,.I .i64)] (fun (t:Addr × Addr)=>Uy t.1 t.2) (fun _=>.q .o (.q (.b (.q (.r [0,1,0,6,8,0,32,0,192,256,528,2047] [0,1,0,6,8,0,32,0,192,256,528,1024] [0,1,0,7,15,0,32,0,224,480,1023,2047] (.pu 0 (.pu 2 (.pu 5 (.pu 7 (.pu 1 (.pu 3 (.pu 4 (.pu 6 (.pu 8 (.pu 9 (.st [10,11] (.on 10 (.pu 11 (.nx .dn))))))))))))))) .o)) .o))))) .o))))) Go.Proofs.Tryz.func38 rfl rfl ⟨rfl,rfl,trivial⟩ rfl (by kernel_rfl) (by kernel_rfl)
noncomputable def Nj:CalleeS Go.Proofs.Tryz.prog:=mkC Jw Wj [.G,.G] [.I .i64] (fun (t:Array Value × Array Value)=>JI t.1 t.2) (fun (t:Array Value × Array Value)=>YR t.1 t.2)
end Gx
namespace Gx
open Go
set_option linter.unusedVariables false
set_option maxRecDepth 100000
def Nk (x0:ByteArray):M (Value):=do
 let Xx2←mkB VY #[.string x0]
 M.pure (Value.func (.func GN) #[] #[.pointer (some Xx2)])
theorem KDJ (x0:ByteArray):Kn Go.Proofs.Tryz.prog 64 #[.string x0] (fun (r:Value)=>r) (Nk x0) :=
 KM [] [] [.V] [(0,.S x0)] .o Go.Proofs.Tryz.func64 rfl rfl ⟨rfl,trivial⟩ rfl (by kernel_rfl) (by kernel_rfl)
def Zg (x0:ByteArray) (x1:ByteArray):M (Bool):=do
 let Xx3←M.ite (decide ((x0.size:Int) ≥ (x1.size:Int))) (do
  let Xx4←slS x0 (IntKind.wrap .i64 ((x0.size:Int) - (x1.size:Int))) x0.size
  M.pure (sEq Xx4 x1)
  ) (do
  M.pure false
  )
 M.pure Xx3
theorem Wg (x0:ByteArray) (x1:ByteArray):Kn Go.Proofs.Tryz.prog 187 #[.string x0,.string x1] (fun (r:Bool)=>.bool r) (Zg x0 x1) :=
 KM [] [] [.B] [(0,.S x0),(1,.S x1)] .o Go.Proofs.Tryz.func187 rfl rfl ⟨rfl,rfl,trivial⟩ rfl (by kernel_rfl) (by kernel_rfl)
noncomputable def Wh:CalleeS Go.Proofs.Tryz.prog:=mkC V8 WD [.S,.S] [.B] (fun (t:ByteArray × ByteArray)=>Zg t.1 t.2) (fun (t:ByteArray × ByteArray)=>Wg t.1 t.2)
def VP (x0:ByteArray) (x1:ByteArray):M (Bool):=do
 let Xx3←Zg x0 x1
 M.pure Xx3
theorem q6 (x0:ByteArray) (x1:ByteArray):Kn Go.Proofs.Tryz.prog 152 #[.string x0,.string x1] (fun (r:Bool)=>.bool r) (VP x0 x1) :=
 KM [Wh] [] [.B] [(0,.S x0),(1,.S x1)] .o Go.Proofs.Tryz.func152 rfl rfl ⟨rfl,rfl,trivial⟩ rfl (by kernel_rfl) (by kernel_rfl)
def YE (C11:Addr) (C12:Addr) (C13:Addr) (C14:Addr) (lp1:Nat):(Int × ByteArray)→M Nat:=fun x=>match x with
 | (Xx15,Xx16)=>do
  let _←beg lp1
  let Xx20←ldV C11
  let Xx21←VD Go.Proofs.Tryz.prog (fun r:Bool=>.bool r) Xx20 [.string Xx16]
  M.ite (!Xx21) (do
   stV C12 (.int .i64 Xx15)
   stV C13 (.int .i64 230)
   M.pure 1
   ) (do
   stV C14 (.int .i64 Xx15)
   M.pure 0
   )
def Vp (x0:ByteArray) (x1:Value):M (Int × Int):=do
 let Xx2←mkB KJA (Value.cells x1)
 let Xx3←mkB WB (#[.int .i64 0]:Array Value)
 let Xx4←mkB Jn (#[.int .i64 0]:Array Value)
 let Xx6←mkB WB (#[.int .i64 0]:Array Value)
 stV Xx6 (.int .i64 0)
 let Xx10←Nk x0
 let j_26←rgF Go.Proofs.Tryz.prog (fun x:Int × ByteArray=>[.int .i64 x.1,.string x.2]) [.ret] (YE Xx2 Xx3 Xx4 Xx6) Xx10
 M.ite (decide (j_26.1=1)) (do
  let _←shut (j_26.2::[])
  let Rr27←ldI .i64 Xx3
  let Rr28←ldI .i64 Xx4
  M.pure (Rr27,Rr28)
  ) (do
  let Xx31←M.ite (!(sEq x0 ByteArray.empty)) (do
   let Xx32←VP x0 (⟨#[10]⟩:ByteArray)
   M.pure (!Xx32)
   ) (do
   M.pure false
   )
  M.ite Xx31 (do
   let Xx34←ldI .i64 Xx6
   stV Xx3 (.int .i64 Xx34)
   stV Xx4 (.int .i64 230)
   let _←shut (j_26.2::[])
   let Rr37←ldI .i64 Xx3
   let Rr38←ldI .i64 Xx4
   M.pure (Rr37,Rr38)
   ) (do
   stV Xx3 (.int .i64 0)
   stV Xx4 (.int .i64 0)
   let _←shut (j_26.2::[])
   let Rr42←ldI .i64 Xx3
   let Rr43←ldI .i64 Xx4
   M.pure (Rr42,Rr43)
   )
  )
theorem KEQ (x0:ByteArray) (x1:Value):Kn Go.Proofs.Tryz.prog 100 #[.string x0,x1] (fun (r:Int × Int)=>.tuple #[.int .i64 r.1,.int .i64 r.2]) (Vp x0 x1):=by
 refine KFB [(0,.string x0),(1,x1)] Go.Proofs.Tryz.func100 rfl rfl (Nat.le_of_ble_eq_true rfl) (Vz ⟨rfl,rfl,trivial⟩) (fun w0 w Q R a hret hE hR H=>?_)
 unfold Vp at H
 refine KW (fun K hK_1=>?_)
 refine KD ?_
 obtain ⟨Xx2,qXx2,H⟩:=H
 refine Wi (v:=.pointer (some Xx2)) rfl rfl hE rfl hR (KMK hE rfl qXx2) (fun a w hE hR hh=>?_)
 replace H:=M.at hh H; clear hh
 obtain ⟨Xx3,qXx3,H⟩:=H
 refine Wi (v:=.pointer (some Xx3)) rfl rfl hE rfl hR (Uv zr3 qXx3) (fun a w hE hR hh=>?_)
 replace H:=M.at hh H; clear hh
 obtain ⟨Xx4,qXx4,H⟩:=H
 refine Wi (v:=.pointer (some Xx4)) rfl rfl hE rfl hR (Uv zr29 qXx4) (fun a w hE hR hh=>?_)
 replace H:=M.at hh H; clear hh
 refine KU ?_
 refine hK_1 _ _ ?_
 refine KW (fun K hK_5=>?_)
 refine KD ?_
 obtain ⟨Xx6,qXx6,H⟩:=H
 refine Wi (v:=.pointer (some Xx6)) rfl rfl hE rfl hR (Uv zr3 qXx6) (fun a w hE hR hh=>?_)
 replace H:=M.at hh H; clear hh
 obtain ⟨u_7,qu_7,H⟩:=H
 refine UF rfl rfl hE hR (ZT hE rfl rfl sz3 qu_7) (fun a w hE hR hh=>?_)
 replace H:=M.at hh H; clear hh
 refine KU ?_
 refine hK_5 _ _ ?_
 refine KW (fun K hK_8=>?_)
 refine KW (fun K hK_9=>?_)
 refine KD ?_
 refine KE (v:=.string x0) rfl rfl hE rfl (KH hE rfl) (fun a hE=>?_)
 refine J9 hE hR KCC rfl (KDJ x0) (M.unbind H) (fun Xx10 a w ea hR H=>?_)
 have hE:=Env.put_some hE rfl ea; clear ea
 refine KU ?_
 refine hK_9 _ _ ?_
 refine Ut ?_
 refine KG5 (js:=[.ret]) (enc:=(fun x:Int × ByteArray=>[.int .i64 x.1,.string x.2])) (Y:=(YE Xx2 Xx3 Xx4 Xx6)) hE hR rfl (fun x=>rfl) rfl (M.unbind H) (fun lp1 x Q w0 Rr hfin a w hE hR H=>?_) (fun j_26 a w hE hR H=>?_)
 ·skip
  rcases x with ⟨Xx15,Xx16⟩
  replace hE:Env (⟨27,[]⟩:Frm) a [(3,.pointer (some Xx2)),(4,.pointer (some Xx3)),(5,.pointer (some Xx4)),(6,.pointer (some Xx6)),(11,.int .i64 Xx15),(12,.string Xx16)]:=Env.cut hE (.cons rfl (.cons rfl (.cons rfl (.cons rfl (.cons rfl (.cons rfl Subs.nil))))))
  replace H:(YE Xx2 Xx3 Xx4 Xx6 lp1 (Xx15,Xx16)).wp w.heap Q:=H
  unfold YE at H
  refine KW (fun K hK_17=>?_)
  refine KD ?_
  refine KE (v:=.int .i64 Xx15) rfl rfl hE rfl (KZ hE rfl) (fun a hE=>?_)
  refine KU ?_
  refine hK_17 _ _ ?_
  refine KD ?_
  refine KE (v:=.string Xx16) rfl rfl hE rfl (KZ hE rfl) (fun a hE=>?_)
  refine KU ?_
  refine KN1 hR H (fun w hR H=>?_)
  refine Ut ?_
  refine KW (fun K hK_18=>?_)
  refine KW (fun K hK_19=>?_)
  refine KD ?_
  obtain ⟨Xx20,qXx20,H⟩:=H
  refine KE (v:=Xx20) rfl rfl hE rfl (ZR hE rfl sc48 qXx20) (fun a hE=>?_)
  refine KE (v:=.string Xx16) rfl rfl hE rfl (KH hE rfl) (fun a hE=>?_)
  refine KD5 hE hR rfl rfl (M.unbind H) (fun Xx21 a w ea hR H=>?_)
  have hE:=Env.put_some hE rfl ea; clear ea
  refine KE (v:=.bool (!Xx21)) rfl rfl hE rfl (r_un hE rfl KIa) (fun a hE=>?_)
  refine KU ?_
  refine hK_19 _ _ ?_
  refine JE (!Xx21) hE rfl (fun hb=>?_) (fun hb=>?_)
  ·replace H:=M.ite_t hb H
   refine KW (fun K hK_22=>?_)
   refine KD ?_
   refine KE (v:=.int .i64 Xx15) rfl rfl hE rfl (KH hE rfl) (fun a hE=>?_)
   obtain ⟨u_23,qu_23,H⟩:=H
   refine UF rfl rfl hE hR (ZT hE rfl rfl sz3 qu_23) (fun a w hE hR hh=>?_)
   replace H:=M.at hh H; clear hh
   obtain ⟨u_24,qu_24,H⟩:=H
   refine UF rfl rfl hE hR (ZT hE rfl rfl sz29 qu_24) (fun a w hE hR hh=>?_)
   replace H:=M.at hh H; clear hh
   refine KU ?_
   refine hK_22 _ _ ?_
   refine WZ ?_
   exact ⟨0,rfl,hfin 1 _ _ hR H⟩
  ·replace H:=M.ite_f hb H
   refine J7 ?_
   refine hK_18 _ _ ?_
   refine KD ?_
   refine KE (v:=.int .i64 Xx15) rfl rfl hE rfl (KH hE rfl) (fun a hE=>?_)
   obtain ⟨u_25,qu_25,H⟩:=H
   refine UF rfl rfl hE hR (ZT hE rfl rfl sz3 qu_25) (fun a w hE hR hh=>?_)
   replace H:=M.at hh H; clear hh
   refine KU ?_
   exact hfin 0 _ _ hR H
 ·skip
  replace hE:Env (⟨27,(j_26.2::[])⟩:Frm) a [(0,.string x0),(3,.pointer (some Xx2)),(4,.pointer (some Xx3)),(5,.pointer (some Xx4)),(6,.pointer (some Xx6))]:=Env.cut hE (.cons rfl (.cons rfl (.cons rfl (.cons rfl (.cons rfl Subs.nil)))))
  refine KG4 (fun hj=>?_) (fun hj=>?_)
  ·replace H:=M.ite_t (decide_eq_true hj) H
   refine WZ ?_
   refine hret _ _ _ _ _ hE hR (M.unbind H) (fun w hR H=>?_)
   obtain ⟨Rr27,qRr27,H⟩:=H
   obtain ⟨Rr28,qRr28,H⟩:=H
   exact ⟨(Rr27,Rr28),_,Z2 hE rfl (RV.cell rfl sc3 qRr27 (RV.cell rfl sc29 qRr28 RV.nil)),rfl,H⟩
  ·replace H:=M.ite_f (decide_eq_false hj) H
   refine KIw ?_
   refine hK_8 _ _ ?_
   refine KW (fun K hK_29=>?_)
   refine KW (fun K hK_30=>?_)
   refine KD ?_
   refine KE (v:=.string x0) rfl rfl hE rfl (KH hE rfl) (fun a hE=>?_)
   refine KE (v:=.bool (!(sEq x0 ByteArray.empty))) rfl rfl hE rfl (ZL hE rfl rfl KE8 KL1) (fun a hE=>?_)
   refine KE (v:=.bool (!(sEq x0 ByteArray.empty))) rfl rfl hE rfl (KH hE rfl) (fun a hE=>?_)
   refine KE5 (n:=(⟨27,(j_26.2::[])⟩:Frm)) (w0:=w0) 4 (fun Xx31:Bool=>[(4,.pointer (some Xx3)),(5,.pointer (some Xx4)),(6,.pointer (some Xx6)),(25,.bool Xx31)]) (M.unbind H) (fun Kr hKr H=>?_) ?_
   ·rcases VT (!(sEq x0 ByteArray.empty)) with hb | hb
    ·replace H:=M.ite_t hb H
     have hE:=hE.reb 21 (!(sEq x0 ByteArray.empty)) true hb rfl
     refine t_on rfl hE rfl rfl rfl ?_
     refine KE (v:=.string x0) rfl rfl hE rfl (KH hE rfl) (fun a hE=>?_)
     refine t_on rfl hE rfl rfl rfl ?_
     refine J9 hE hR qJ rfl (q6 x0 (⟨#[10]⟩:ByteArray)) (M.unbind H) (fun Xx32 a w ea hR H=>?_)
     have hE:=Env.put_some hE rfl ea; clear ea
     refine t_on rfl hE rfl rfl rfl ?_
     refine KE (v:=.bool (!Xx32)) rfl rfl hE rfl (r_un hE rfl KIa) (fun a hE=>?_)
     refine KE rfl rfl hE rfl (J8 hE rfl rfl) (fun a hE=>?_)
     refine KU ?_
     exact hKr _ _ _ (hE.cut (.cons rfl (.cons rfl (.cons rfl (.cons rfl Subs.nil))))) hR H
    ·replace H:=M.ite_f hb H
     have hE:=hE.reb 21 (!(sEq x0 ByteArray.empty)) false hb rfl
     refine NF rfl hE rfl rfl rfl (fun a ea=>?_)
     have hE:=Env.put_some hE rfl ea; clear ea
     refine NF rfl hE rfl rfl rfl (fun a ea=>?_)
     have hE:=Env.put_some hE rfl ea; clear ea
     refine NF rfl hE rfl rfl rfl (fun a ea=>?_)
     have hE:=Env.put_some hE rfl ea; clear ea
     refine KE rfl rfl hE rfl (JP hE rfl rfl) (fun a hE=>?_)
     refine KU ?_
     exact hKr _ _ _ (hE.cut (.cons rfl (.cons rfl (.cons rfl (.cons rfl Subs.nil))))) hR H
   ·intro Xx31 a w hE hR H
    refine KU ?_
    refine hK_30 _ _ ?_
    refine JE Xx31 hE rfl (fun hb=>?_) (fun hb=>?_)
    ·replace H:=M.ite_t hb H
     refine KW (fun K hK_33=>?_)
     refine KD ?_
     obtain ⟨Xx34,qXx34,H⟩:=H
     refine KE (v:=.int .i64 Xx34) rfl rfl hE rfl (ZR hE rfl sc3 qXx34) (fun a hE=>?_)
     obtain ⟨u_35,qu_35,H⟩:=H
     refine UF rfl rfl hE hR (ZT hE rfl rfl sz3 qu_35) (fun a w hE hR hh=>?_)
     replace H:=M.at hh H; clear hh
     obtain ⟨u_36,qu_36,H⟩:=H
     refine UF rfl rfl hE hR (ZT hE rfl rfl sz29 qu_36) (fun a w hE hR hh=>?_)
     replace H:=M.at hh H; clear hh
     refine KU ?_
     refine hK_33 _ _ ?_
     refine WZ ?_
     refine hret _ _ _ _ _ hE hR (M.unbind H) (fun w hR H=>?_)
     obtain ⟨Rr37,qRr37,H⟩:=H
     obtain ⟨Rr38,qRr38,H⟩:=H
     exact ⟨(Rr37,Rr38),_,Z2 hE rfl (RV.cell rfl sc3 qRr37 (RV.cell rfl sc29 qRr38 RV.nil)),rfl,H⟩
    ·replace H:=M.ite_f hb H
     refine J7 ?_
     refine hK_29 _ _ ?_
     refine KW (fun K hK_39=>?_)
     refine KD ?_
     obtain ⟨u_40,qu_40,H⟩:=H
     refine UF rfl rfl hE hR (ZT hE rfl rfl sz3 qu_40) (fun a w hE hR hh=>?_)
     replace H:=M.at hh H; clear hh
     obtain ⟨u_41,qu_41,H⟩:=H
     refine UF rfl rfl hE hR (ZT hE rfl rfl sz29 qu_41) (fun a w hE hR hh=>?_)
     replace H:=M.at hh H; clear hh
     refine KU ?_
     refine hK_39 _ _ ?_
     refine WZ ?_
     refine hret _ _ _ _ _ hE hR (M.unbind H) (fun w hR H=>?_)
     obtain ⟨Rr42,qRr42,H⟩:=H
     obtain ⟨Rr43,qRr43,H⟩:=H
     exact ⟨(Rr42,Rr43),_,Z2 hE rfl (RV.cell rfl sc3 qRr42 (RV.cell rfl sc29 qRr43 RV.nil)),rfl,H⟩
noncomputable def KAC:CalleeS Go.Proofs.Tryz.prog:=mkC KC1 KC9 [.S,.V] [.I .i64,.I .i64] (fun (t:ByteArray × Value)=>Vp t.1 t.2) (fun (t:ByteArray × Value)=>KEQ t.1 t.2)
def J5 (x0:ByteArray):M (Sl × Int × Int):=do
 let Xx3←mkB Zm (#[.slice none 0 0]:Array Value)
 let Xx5←Vp x0 (Value.func (.func NZ) #[] #[.pointer (some Xx3)])
 M.ite (Xx5.2 != 0) (do
  M.pure (Sl.nil,Xx5.1,Xx5.2)
  ) (do
  let Xx10←ldL Xx3
  M.pure (Xx10,0,0)
  )
theorem KAD (x0:ByteArray):Kn Go.Proofs.Tryz.prog 51 #[.string x0] (fun (r:Sl × Int × Int)=>.tuple #[(r.1:Sl).v,.int .i64 r.2.1,.int .i64 r.2.2]) (J5 x0) :=
 KM [KAC] [] [.L,.I .i64,.I .i64] [(0,.S x0)] .o Go.Proofs.Tryz.func51 rfl rfl ⟨rfl,trivial⟩ rfl (by kernel_rfl) (by kernel_rfl)
noncomputable def KAE:CalleeS Go.Proofs.Tryz.prog:=mkC qj qp [.S] [.L,.I .i64,.I .i64] (fun (t:ByteArray)=>J5 t) (fun (t:ByteArray)=>KAD t)
def JS (x0:Int):M (Array Value):=do
 let Xx2←mkB KB (#[.int .i64 0,.int .i64 0,.string ByteArray.empty,.slice none 0 0]:Array Value)
 M.need ((#[.int .i64 1,.int .i64 x0,.string ByteArray.empty,.slice none 0 0]:Array Value).size=4)
 stG Xx2 (#[.int .i64 1,.int .i64 x0,.string ByteArray.empty,.slice none 0 0]:Array Value)
 let Rr5←ldG 4 Xx2
 M.pure Rr5
theorem KAv (x0:Int):Kn Go.Proofs.Tryz.prog 27 #[.int .i64 x0] (fun (r:Array Value)=>.agg r) (JS x0) :=
 KM [] [] [.G] [(0,.I .i64 x0)] .o Go.Proofs.Tryz.func27 rfl rfl ⟨rfl,trivial⟩ rfl (by kernel_rfl) (by kernel_rfl)
noncomputable def KAw:CalleeS Go.Proofs.Tryz.prog:=mkC zf zp [.I .i64] [.G] (fun (t:Int)=>JS t) (fun (t:Int)=>KAv t)
def JT (x0:ByteArray):M (Array Value):=do
 let Xx2←mkB KB (#[.int .i64 0,.int .i64 0,.string ByteArray.empty,.slice none 0 0]:Array Value)
 M.need ((#[.int .i64 2,.int .i64 0,.string x0,.slice none 0 0]:Array Value).size=4)
 stG Xx2 (#[.int .i64 2,.int .i64 0,.string x0,.slice none 0 0]:Array Value)
 let Rr5←ldG 4 Xx2
 M.pure Rr5
theorem KAx (x0:ByteArray):Kn Go.Proofs.Tryz.prog 29 #[.string x0] (fun (r:Array Value)=>.agg r) (JT x0) :=
 KM [] [] [.G] [(0,.S x0)] .o Go.Proofs.Tryz.func29 rfl rfl ⟨rfl,trivial⟩ rfl (by kernel_rfl) (by kernel_rfl)
noncomputable def KAy:CalleeS Go.Proofs.Tryz.prog:=mkC zg zq [.S] [.G] (fun (t:ByteArray)=>JT t) (fun (t:ByteArray)=>KAx t)
end Gx
namespace Gx
open Go
set_option linter.unusedVariables false
set_option maxRecDepth 100000
def Zw (x0:Sl) (x1:Int):M (Value):=do
 let Xx2←mkB Zm #[(x0:Sl).v]
 let Xx3←mkB WB #[.int .i64 x1]
 let Xx6←ldI .i64 Xx3
 M.ite (decide (Xx6 < 1)) (do
  M.fail
  ) (do
  M.pure (Value.func (.func ZX) #[] #[.pointer (some Xx2),.pointer (some Xx3)])
  )
theorem Va (x0:Sl) (x1:Int):Kn Go.Proofs.Tryz.prog 78 #[(x0:Sl).v,.int .i64 x1] (fun (r:Value)=>r) (Zw x0 x1) :=
 KM [] [] [.V] [(0,.L x0),(1,.I .i64 x1)] .o Go.Proofs.Tryz.func78 rfl rfl ⟨rfl,rfl,trivial⟩ rfl (by kernel_rfl) (by kernel_rfl)
def Kw (self2:(Int × Int)→M (Sl)) (C36:Int) (Xx32:Int):M (Sl):=do
 self2 (Xx32,IntKind.wrap .i64 (C36+1))
def ZM (C26:Sl) (C27:Value) (C28:Sl) (self2:(Int × Int)→M (Sl)):(Int × Int)→M (Sl):=fun s=>match s with
 | (Xx24,Xx25)=>do
  M.ite (decide (Xx25 < (C28.len:Int))) (do
   let Xx38←ixL C28 Xx25 4
   let Xx39←ixL C28 (IntKind.wrap .i64 (Xx25 - 1)) 4
   let Xx40←ldG 4 Xx38
   let Xx41←ldG 4 Xx39
   let Xx42←KI0 Go.Proofs.Tryz.prog (fun r:Bool=>.bool r) C27 [.agg Xx40,.agg Xx41]
   M.ite (!Xx42) (do
    let Xx44←ixL C28 Xx25 4
    let Xx45←ldG 4 Xx44
    let Xx46←ixL C26 Xx24 4
    M.need (Xx45.size=4)
    stG Xx46 Xx45
    Kw self2 Xx25 (IntKind.wrap .i64 (Xx24+1))
    ) (do
    Kw self2 Xx25 Xx24
    )
   ) (do
   let Xx49←slL C26 Xx24 C26.len 4
   let u_50←clL (#[.int .i64 0,.int .i64 0,.string ByteArray.empty,.slice none 0 0]:Array Value) Xx49
   let Xx52←slL C26 0 Xx24 4
   M.pure Xx52
   )
def ZN (C8:Sl) (C9:Value) (self1:(Int)→M (Sl)):(Int)→M (Sl):=fun s=>match s with
 | Xx7=>do
  M.ite (decide (Xx7 < (C8.len:Int))) (do
   let Xx15←ixL C8 Xx7 4
   let Xx16←ixL C8 (IntKind.wrap .i64 (Xx7 - 1)) 4
   let Xx17←ldG 4 Xx15
   let Xx18←ldG 4 Xx16
   let Xx19←KI0 Go.Proofs.Tryz.prog (fun r:Bool=>.bool r) C9 [.agg Xx17,.agg Xx18]
   M.ite Xx19 (do
    let Xx21←slL C8 Xx7 C8.len 4
    M.loop (ZM C8 C9 Xx21) (Xx7,1)
    ) (do
    self1 (IntKind.wrap .i64 (Xx7+1))
    )
   ) (do
   M.pure C8
   )
def ZA (x0:Sl) (x1:Value):M (Sl):=do
 M.ite (decide ((x0.len:Int) < 2)) (do
  M.pure x0
  ) (do
  M.loop (ZN x0 x1) 1
  )
theorem Ui (x0:Sl) (x1:Value):Kn Go.Proofs.Tryz.prog 121 #[(x0:Sl).v,x1] (fun (r:Sl)=>(r:Sl).v) (ZA x0 x1) :=
 KM [] [] [.L] [(0,.L x0),(1,.V x1)] (.q .o (.q .o (.q (.q .o (.b (.l [(0,.L),(1,.V)] [(5,.I .i64)] (fun (t:Sl × Value)=>ZN t.1 t.2) (fun _=>.q .o (.q (.b (.q (.r [0,0,0,6,8,0,0,64,160,256,529] [0,0,0,6,8,0,0,64,160,256,529] [0,0,0,6,14,0,0,64,224,480,1023] (.pu 0 (.pu 1 (.pu 2 (.pu 3 (.pu 5 (.pu 6 (.pu 7 (.pu 8 (.pu 4 (.pu 9 (.st [10] (.on 10 .dn))))))))))))) (.q (.q .o (.q (.q .o (.b (.l [(0,.L),(1,.V),(6,.L)] [(5,.I .i64),(7,.I .i64)] (fun (t:Sl × Value × Sl)=>ZM t.1 t.2.1 t.2.2) (fun self2=>.q .o (.q (.b (.q (.r [0,0,0,6,8,0,0,64,160,256,529,1024] [0,0,0,6,8,0,0,64,160,256,529,1024] [0,0,0,6,14,0,0,64,224,480,1023,2047] (.pu 0 (.pu 1 (.pu 2 (.pu 3 (.pu 5 (.pu 6 (.pu 7 (.pu 8 (.pu 4 (.pu 9 (.st [10,11] (.on 10 (.pu 11 (.nx .dn))))))))))))))) .o)) (.j [(0,.L),(1,.V),(6,.L),(7,.I .i64),(5,.I .i64)] (fun (t:Sl × Value × Sl × Int × Int)=>Kw self2 t.2.2.2.1 t.2.2.2.2) .o)))))) .o)) .o))) .o))))) .o))) Go.Proofs.Tryz.func121 rfl rfl ⟨rfl,rfl,trivial⟩ rfl (by kernel_rfl) (by kernel_rfl)
theorem KM4:KDy Go.Proofs.Tryz.f65 14 [[],[],[1],[2],[0],[],[0,5,0,1,2,3,4,5],[6,4,0,1,2,3,4,5,6],[7,3,6,0,1,2,3,4,5,6],[6,6,0,1,2,3,4,5,6]] [[],[],[1],[2],[0],[],[0,5],[4,6],[3,7],[6]] [[],[],[1],[1,2],[0],[],[0,1,2,3,4,5],[0,1,2,3,4,5,6],[0,1,2,3,4,5,6,7],[0,1,2,3,4,5,6]]=true:=by kernel_rfl
def VK (C45:Addr) (C46:Addr) (C47:Addr) (lp2:Nat):(Sl)→M Nat:=fun x=>match x with
 | Xx48=>do
  let _←beg lp2
  let Xx51←ixL Xx48 0 4
  let Xx52←ldI .i64 ((Xx51).add 0)
  M.ite (Xx52 != 2) (do
   stV C45 (.string ByteArray.empty)
   stV C46 (.int .i64 21)
   M.pure 1
   ) (do
   let Xx56←ixL Xx48 0 4
   let Xx57←ldL C47
   let Xx58←ldG 4 Xx56
   let y_60←GL 4 1 (#[.int .i64 0,.int .i64 0,.string ByteArray.empty,.slice none 0 0]:Array Value) [(0,.agg (#[.int .i64 0,.int .i64 0,.string ByteArray.empty,.slice none 0 0]:Array Value))]
   let Xx59←bdL KB 1 y_60
   chk (fun h:Heap=>(KN h C47=some ((Xx57:Sl).v))∧(Xx58.size=4∧∀ i,i < 4→KN h (Addr.add Xx56 i)=Xx58[i]?))
   let Xx61←apL KB 4 56 (#[.int .i64 0,.int .i64 0,.string ByteArray.empty,.slice none 0 0]:Array Value) Xx57 Xx59
   let Xx62←ixL Xx61 (Xx57.len:Int) 4
   let y_67←do
    M.both (do
     M.need (Xx58.size=4)
     stG Xx62 Xx58
     stV C47 ((Xx61:Sl).v)
     M.pure ()
     ) (do
     stV C47 ((Xx61:Sl).v)
     M.need (Xx58.size=4)
     stG Xx62 Xx58
     M.pure ()
     )
   M.pure 0
   )
def WP (cm_86:List Nat) (C87:Addr) (C88:Addr) (C89:Addr) (C90:Value) (C91:Sl) (C92:Int) (self3:(Int)→M (ByteArray × Int)):(Int)→M (ByteArray × Int):=fun s=>match s with
 | Xx85=>do
  M.ite (decide (Xx85 < C92)) (do
   let Xx98←ixL C91 Xx85 4
   let Xx99←ldG 4 Xx98
   let Xx100←mkB KB (#[.int .i64 0,.int .i64 0,.string ByteArray.empty,.slice none 0 0]:Array Value)
   M.need (Xx99.size=4)
   stG Xx100 Xx99
   let Xx102←VD Go.Proofs.Tryz.prog (fun r:Unit=>.tuple #[]) C90 [(Value.func (.func VO) #[] #[.pointer (some Xx100)])]
   self3 (IntKind.wrap .i64 (Xx85+1))
   ) (do
   let Xx104←Ky (some C89)
   stV C87 (.string Xx104)
   stV C88 (.int .i64 0)
   let _←shut cm_86
   let Rr107←ldS C87
   let Rr108←ldI .i64 C88
   M.pure (Rr107,Rr108)
   )
def WQ (C19:Sl) (C20:Addr) (C21:Addr) (C22:Addr) (C23:Sl) (C24:Int) (self1:(List Nat × Int)→M (ByteArray × Int)):(List Nat × Int)→M (ByteArray × Int):=fun s=>match s with
 | (xm_17,Xx18)=>do
  M.ite (decide (Xx18 < C24)) (do
   let Xx30←ixL C23 Xx18 4
   let Xx31←ldG 4 Xx30
   let Xx32←mkB KB (#[.int .i64 0,.int .i64 0,.string ByteArray.empty,.slice none 0 0]:Array Value)
   M.need (Xx31.size=4)
   stG Xx32 Xx31
   let Xx36←ldI .i64 ((Xx32).add 0)
   M.ite (Xx36 != 5) (do
    stV C20 (.string ByteArray.empty)
    stV C21 (.int .i64 21)
    let _←shut xm_17
    let Rr40←ldS C20
    let Rr41←ldI .i64 C21
    M.pure (Rr40,Rr41)
    ) (do
    let Xx43←ldL ((Xx32).add 3)
    let Xx44←Zw Xx43 2
    let j_68←rgF Go.Proofs.Tryz.prog (fun x:Sl=>[(x:Sl).v]) [.ret] (VK C20 C21 C22) Xx44
    M.ite (decide (j_68.1=1)) (do
     let _←shut (j_68.2::xm_17)
     let Rr69←ldS C20
     let Rr70←ldI .i64 C21
     M.pure (Rr69,Rr70)
     ) (do
     self1 ((j_68.2::xm_17),IntKind.wrap .i64 (Xx18+1))
     )
    )
   ) (do
   let Xx72←ldL C22
   let Xx73←NQ Go.Proofs.Tryz.prog JN #[(Xx72:Sl).v,(Value.func (.func Zp) #[] #[])] (fun r:Unit=>.tuple #[])
   let Xx75←ldL C22
   let Xx76←ZA Xx75 (Value.func (.func WA) #[] #[])
   stV C22 ((Xx76:Sl).v)
   let Xx79←mkB ZJ (#[.pointer none,.slice none 0 0]:Array Value)
   let Xx82←VD Go.Proofs.Tryz.prog (fun r:Unit=>.tuple #[]) (Value.func (.func Zb) #[] #[.pointer (some C22),.pointer (some Xx79)]) [(Value.func (.func Y1) #[] #[])]
   M.loop (WP xm_17 C20 C21 Xx79 (Value.func (.func Zb) #[] #[.pointer (some C22),.pointer (some Xx79)]) C19 (C19.len:Int)) 0
   )
def Vw (x0:Sl):M (ByteArray × Int):=do
 let Xx2←mkB VY (#[.string ByteArray.empty]:Array Value)
 let Xx3←mkB Jn (#[.int .i64 0]:Array Value)
 let Xx6←Vv x0
 M.ite (Xx6 != 0) (do
  stV Xx2 (.string ByteArray.empty)
  stV Xx3 (.int .i64 Xx6)
  let _←shut ([])
  let Rr11←ldS Xx2
  let Rr12←ldI .i64 Xx3
  M.pure (Rr11,Rr12)
  ) (do
  let Xx14←mkB Zm (#[.slice none 0 0]:Array Value)
  M.loop (WQ x0 Xx2 Xx3 Xx14 x0 (x0.len:Int)) ([],0)
  )
theorem KDK (x0:Sl):Kn Go.Proofs.Tryz.prog 65 #[(x0:Sl).v] (fun (r:ByteArray × Int)=>.tuple #[.string r.1,.int .i64 r.2]) (Vw x0):=by
 refine KFB [(0,(x0:Sl).v)] Go.Proofs.Tryz.func65 rfl rfl (Nat.le_of_ble_eq_true rfl) (Vz ⟨rfl,trivial⟩) (fun w0 w Q R a hret hE hR H=>?_)
 unfold Vw at H
 refine KW (fun K hK_1=>?_)
 refine KD ?_
 obtain ⟨Xx2,qXx2,H⟩:=H
 refine Wi (v:=.pointer (some Xx2)) rfl rfl hE rfl hR (Uv zr9 qXx2) (fun a w hE hR hh=>?_)
 replace H:=M.at hh H; clear hh
 obtain ⟨Xx3,qXx3,H⟩:=H
 refine Wi (v:=.pointer (some Xx3)) rfl rfl hE rfl hR (Uv zr29 qXx3) (fun a w hE hR hh=>?_)
 replace H:=M.at hh H; clear hh
 refine KU ?_
 refine hK_1 _ _ ?_
 refine KW (fun K hK_4=>?_)
 refine KW (fun K hK_5=>?_)
 refine KD ?_
 refine KE (v:=(x0:Sl).v) rfl rfl hE rfl (KH hE rfl) (fun a hE=>?_)
 refine J9 hE hR Nc rfl (qT x0) (M.unbind H) (fun Xx6 a w ea hR H=>?_)
 have hE:=Env.put_some hE rfl ea; clear ea
 refine KE (v:=.int .i64 Xx6) rfl rfl hE rfl (KZ hE rfl) (fun a hE=>?_)
 refine KU ?_
 refine hK_5 _ _ ?_
 refine KW (fun K hK_7=>?_)
 refine KD ?_
 refine KE (v:=.int .i64 Xx6) rfl rfl hE rfl (KH hE rfl) (fun a hE=>?_)
 refine KE (v:=.bool (Xx6 != 0)) rfl rfl hE rfl (ZL hE rfl rfl ZF KCv) (fun a hE=>?_)
 refine KU ?_
 refine hK_7 _ _ ?_
 refine JE (Xx6 != 0) hE rfl (fun hb=>?_) (fun hb=>?_)
 ·replace H:=M.ite_t hb H
  refine KW (fun K hK_8=>?_)
  refine KD ?_
  refine KE (v:=.int .i64 Xx6) rfl rfl hE rfl (KH hE rfl) (fun a hE=>?_)
  obtain ⟨u_9,qu_9,H⟩:=H
  refine UF rfl rfl hE hR (ZT hE rfl rfl sz9 qu_9) (fun a w hE hR hh=>?_)
  replace H:=M.at hh H; clear hh
  obtain ⟨u_10,qu_10,H⟩:=H
  refine UF rfl rfl hE hR (ZT hE rfl rfl sz29 qu_10) (fun a w hE hR hh=>?_)
  replace H:=M.at hh H; clear hh
  refine KU ?_
  refine hK_8 _ _ ?_
  refine WZ ?_
  refine hret _ _ _ _ _ hE hR (M.unbind H) (fun w hR H=>?_)
  obtain ⟨Rr11,qRr11,H⟩:=H
  obtain ⟨Rr12,qRr12,H⟩:=H
  exact ⟨(Rr11,Rr12),_,Z2 hE rfl (RV.cell rfl sc9 qRr11 (RV.cell rfl sc29 qRr12 RV.nil)),rfl,H⟩
 ·replace H:=M.ite_f hb H
  refine J7 ?_
  refine hK_4 _ _ ?_
  refine KW (fun K hK_13=>?_)
  refine KD ?_
  obtain ⟨Xx14,qXx14,H⟩:=H
  refine Wi (v:=.pointer (some Xx14)) rfl rfl hE rfl hR (Uv zr22 qXx14) (fun a w hE hR hh=>?_)
  replace H:=M.at hh H; clear hh
  refine KU ?_
  refine hK_13 _ _ ?_
  refine KW (fun K hK_15=>?_)
  refine KW (fun K hK_16=>?_)
  refine KD ?_
  refine KE (v:=(x0:Sl).v) rfl rfl hE rfl (KH hE rfl) (fun a hE=>?_)
  refine KE (v:=.int .i64 (x0.len:Int)) rfl rfl hE rfl (KHl hE rfl 24 un22) (fun a hE=>?_)
  refine KE (v:=.int .i64 0) rfl rfl hE rfl (KH hE rfl) (fun a hE=>?_)
  refine KU ?_
  refine hK_16 _ _ ?_
  refine Ut ?_
  refine KBz (fun (s:List Nat × Int)=>(⟨63,s.1⟩:Frm)) (fun (s:List Nat × Int)=>[(0,(x0:Sl).v),(2,.pointer (some Xx2)),(3,.pointer (some Xx3)),(5,.pointer (some Xx14)),(18,(x0:Sl).v),(19,.int .i64 (x0.len:Int)),(20,.int .i64 s.2)]) H (hE.cut (.cons rfl (.cons rfl (.cons rfl (.cons rfl (.cons rfl (.cons rfl (.cons rfl Subs.nil)))))))) hR (fun Y self1 hY_25 s a w hE hR H=>?_)
  rcases s with ⟨xm_17,Xx18⟩
  replace hE:Env (⟨63,xm_17⟩:Frm) a [(0,(x0:Sl).v),(2,.pointer (some Xx2)),(3,.pointer (some Xx3)),(5,.pointer (some Xx14)),(18,(x0:Sl).v),(19,.int .i64 (x0.len:Int)),(20,.int .i64 Xx18)]:=hE
  replace H:(WQ x0 Xx2 Xx3 Xx14 x0 (x0.len:Int) self1 (xm_17,Xx18)).wp w.heap Q:=H
  unfold WQ at H
  refine KW (fun K hK_26=>?_)
  refine KD ?_
  refine KE (v:=.bool (decide (Xx18 < (x0.len:Int)))) rfl rfl hE rfl (ZL hE rfl rfl ZF zP) (fun a hE=>?_)
  refine KU ?_
  refine hK_26 _ _ ?_
  refine KW (fun K hK_27=>?_)
  refine JE (decide (Xx18 < (x0.len:Int))) hE rfl (fun hb=>?_) (fun hb=>?_)
  ·replace H:=M.ite_t hb H
   refine J7 ?_
   refine hK_27 _ _ ?_
   refine KW (fun K hK_28=>?_)
   refine Ut ?_
   refine KW (fun K hK_29=>?_)
   refine KD ?_
   obtain ⟨Xx30,qXx30,H⟩:=H
   refine KE (v:=.pointer (some Xx30)) rfl rfl hE rfl (U9 hE rfl rfl un22 sz24 qXx30) (fun a hE=>?_)
   obtain ⟨Xx31,qXx31,H⟩:=H
   refine KE (v:=.agg Xx31) rfl rfl hE rfl (qZ hE rfl ag24 qXx31) (fun a hE=>?_)
   obtain ⟨Xx32,qXx32,H⟩:=H
   refine Wi (v:=.pointer (some Xx32)) rfl rfl hE rfl hR (Uv zr24 qXx32) (fun a w hE hR hh=>?_)
   replace H:=M.at hh H; clear hh
   obtain ⟨qz,H⟩:=H
   obtain ⟨u_33,qu_33,H⟩:=H
   refine UF rfl rfl hE hR (Z1 hE rfl rfl sz24 qz qu_33) (fun a w hE hR hh=>?_)
   replace H:=M.at hh H; clear hh
   refine KU ?_
   refine hK_29 _ _ ?_
   refine KW (fun K hK_34=>?_)
   refine KW (fun K hK_35=>?_)
   refine KD ?_
   refine KE (v:=.pointer (some ((Xx32).add 0))) rfl rfl hE rfl (KL hE rfl KL9) (fun a hE=>?_)
   obtain ⟨Xx36,qXx36,H⟩:=H
   refine KE (v:=.int .i64 Xx36) rfl rfl hE rfl (ZR hE rfl sc3 qXx36) (fun a hE=>?_)
   refine KE (v:=.bool (Xx36 != 5)) rfl rfl hE rfl (ZL hE rfl rfl ZF KCv) (fun a hE=>?_)
   refine KU ?_
   refine hK_35 _ _ ?_
   refine JE (Xx36 != 5) hE rfl (fun hb=>?_) (fun hb=>?_)
   ·replace H:=M.ite_t hb H
    refine KW (fun K hK_37=>?_)
    refine KD ?_
    obtain ⟨u_38,qu_38,H⟩:=H
    refine UF rfl rfl hE hR (ZT hE rfl rfl sz9 qu_38) (fun a w hE hR hh=>?_)
    replace H:=M.at hh H; clear hh
    obtain ⟨u_39,qu_39,H⟩:=H
    refine UF rfl rfl hE hR (ZT hE rfl rfl sz29 qu_39) (fun a w hE hR hh=>?_)
    replace H:=M.at hh H; clear hh
    refine KU ?_
    refine hK_37 _ _ ?_
    refine WZ ?_
    refine hret _ _ _ _ _ hE hR (M.unbind H) (fun w hR H=>?_)
    obtain ⟨Rr40,qRr40,H⟩:=H
    obtain ⟨Rr41,qRr41,H⟩:=H
    exact ⟨(Rr40,Rr41),_,Z2 hE rfl (RV.cell rfl sc9 qRr40 (RV.cell rfl sc29 qRr41 RV.nil)),rfl,H⟩
   ·replace H:=M.ite_f hb H
    refine J7 ?_
    refine hK_34 _ _ ?_
    refine KW (fun K hK_42=>?_)
    refine KD ?_
    refine KE (v:=.pointer (some ((Xx32).add 3))) rfl rfl hE rfl (KL hE rfl KOU) (fun a hE=>?_)
    obtain ⟨Xx43,qXx43,H⟩:=H
    refine KE (v:=(Xx43:Sl).v) rfl rfl hE rfl (ZR hE rfl sc22 qXx43) (fun a hE=>?_)
    refine J9 hE hR VV rfl (Va Xx43 2) (M.unbind H) (fun Xx44 a w ea hR H=>?_)
    have hE:=Env.put_some hE rfl ea; clear ea
    refine KU ?_
    refine hK_42 _ _ ?_
    refine Ut ?_
    refine KG5 (js:=[.ret]) (enc:=(fun x:Sl=>[(x:Sl).v])) (Y:=(VK Xx2 Xx3 Xx14)) hE hR rfl (fun x=>rfl) rfl (M.unbind H) (fun lp2 Xx48 Q w0 Rr hfin a w hE hR H=>?_) (fun j_68 a w hE hR H=>?_)
    ·skip
     replace hE:Env (⟨63,[]⟩:Frm) a [(2,.pointer (some Xx2)),(3,.pointer (some Xx3)),(5,.pointer (some Xx14)),(30,(Xx48:Sl).v)]:=Env.cut hE (.cons rfl (.cons rfl (.cons rfl (.cons rfl Subs.nil))))
     replace H:(VK Xx2 Xx3 Xx14 lp2 Xx48).wp w.heap Q:=H
     unfold VK at H
     refine KD ?_
     refine KE (v:=(Xx48:Sl).v) rfl rfl hE rfl (KZ hE rfl) (fun a hE=>?_)
     refine KU ?_
     refine KN1 hR H (fun w hR H=>?_)
     refine Ut ?_
     refine KW (fun K hK_49=>?_)
     refine KW (fun K hK_50=>?_)
     refine KD ?_
     refine KE (v:=(Xx48:Sl).v) rfl rfl hE rfl (KH hE rfl) (fun a hE=>?_)
     obtain ⟨Xx51,qXx51,H⟩:=H
     refine KE (v:=.pointer (some Xx51)) rfl rfl hE rfl (U9 hE rfl rfl un22 sz24 qXx51) (fun a hE=>?_)
     refine KE (v:=.pointer (some ((Xx51).add 0))) rfl rfl hE rfl (KL hE rfl KL9) (fun a hE=>?_)
     obtain ⟨Xx52,qXx52,H⟩:=H
     refine KE (v:=.int .i64 Xx52) rfl rfl hE rfl (ZR hE rfl sc3 qXx52) (fun a hE=>?_)
     refine KE (v:=.bool (Xx52 != 2)) rfl rfl hE rfl (ZL hE rfl rfl ZF KCv) (fun a hE=>?_)
     refine KU ?_
     refine hK_50 _ _ ?_
     refine JE (Xx52 != 2) hE rfl (fun hb=>?_) (fun hb=>?_)
     ·replace H:=M.ite_t hb H
      refine KW (fun K hK_53=>?_)
      refine KD ?_
      obtain ⟨u_54,qu_54,H⟩:=H
      refine UF rfl rfl hE hR (ZT hE rfl rfl sz9 qu_54) (fun a w hE hR hh=>?_)
      replace H:=M.at hh H; clear hh
      obtain ⟨u_55,qu_55,H⟩:=H
      refine UF rfl rfl hE hR (ZT hE rfl rfl sz29 qu_55) (fun a w hE hR hh=>?_)
      replace H:=M.at hh H; clear hh
      refine KU ?_
      refine hK_53 _ _ ?_
      refine WZ ?_
      exact ⟨0,rfl,hfin 1 _ _ hR H⟩
     ·replace H:=M.ite_f hb H
      refine J7 ?_
      refine hK_49 _ _ ?_
      obtain ⟨Xx56,qXx56,H⟩:=H
      obtain ⟨Xx57,qXx57,H⟩:=H
      obtain ⟨Xx58,qXx58,H⟩:=H
      have hT:=Xv KM4 rfl rfl
      refine Vi (fun w:World=>(fun h:Heap=>(KN h Xx14=some ((Xx57:Sl).v))∧(Xx58.size=4∧∀ i,i < 4→KN h (Addr.add Xx56 i)=Xx58[i]?)) w.heap) [6,7,8,9] #[false,false,false,false,false,false,false,false,false,false] mo hR rfl rfl (fun w' e=>by rw [e]; exact ⟨qXx57,qXx58⟩) (fun w hh hR hs=>?_)
      replace H:=M.at hh H; clear hh
      refine KC (i:=1) (v:=(Xx48:Sl).v) #[false,true,false,false,false,false,false,false,false,false] rfl rfl hT (by kernel_rfl) hE rfl (KA rfl) (fun w=>KH hE rfl) (fun a hE=>?_)
      refine KC (i:=2) (v:=.pointer (some Xx56)) #[false,true,true,false,false,false,false,false,false,false] rfl rfl hT (by kernel_rfl) hE rfl (KA rfl) (fun w=>U9 hE rfl rfl un22 sz24 qXx56) (fun a hE=>?_)
      refine UA (i:=0) (v:=(Xx57:Sl).v) #[true,true,true,false,false,false,false,false,false,false] rfl rfl hT (by kernel_rfl) hE rfl (KA rfl) hs (fun w s=>ZR hE rfl sc22 s.1) (fun a hE=>?_)
      refine KC (i:=4) (v:=.int .i64 (Xx57.len:Int)) #[true,true,true,false,true,false,false,false,false,false] rfl rfl hT (by kernel_rfl) hE rfl (KA rfl) (fun w=>KHl hE rfl 24 un22) (fun a hE=>?_)
      refine UA (i:=3) (v:=.agg Xx58) #[true,true,true,true,true,false,false,false,false,false] rfl rfl hT (by kernel_rfl) hE rfl (KA rfl) hs (fun w s=>qZ hE rfl ag24 s.2) (fun a hE=>?_)
      obtain ⟨y_60,qy_60,H⟩:=H
      obtain ⟨Xx59,qXx59,H⟩:=H
      obtain ⟨_,sA,H⟩:=H
      refine KLu (i:=5) (v:=(Xx59:Sl).v) #[true,true,true,true,true,true,false,false,false,false] rfl rfl hT (by kernel_rfl) rfl hE hR rfl (KA rfl) (Gf hE rfl un22 sz24 zr24 rfl qy_60 qXx59)  (fun w' e=>by rw [e]; exact sA) (fun a w hE hR hh hs=>?_)
      replace H:=M.at hh H; clear hh
      refine KNg (i:=6) (fun Xx61=>(Xx61:Sl).v) #[true,true,true,true,true,true,true,false,false,false] rfl rfl hT (by kernel_rfl) rfl hR (KA rfl) (M.unbind H) (fun Q H=>KDZ hE rfl rfl ap22 H) (fun Xx61 a w ea hR H=>?_)
      have hE:=Env.put_some hE rfl ea; clear ea
      obtain ⟨Xx62,qXx62,H⟩:=H
      refine KC (i:=7) (v:=.pointer (some Xx62)) #[true,true,true,true,true,true,true,true,false,false] rfl rfl hT (by kernel_rfl) hE rfl (KA rfl) (fun w=>U9 hE rfl rfl un22 sz24 qXx62) (fun a hE=>?_)
      refine KD0 (fun w:World=>(fun h:Heap=>True) w.heap) [8,9] (by kernel_rfl) ?_
      have hs:(fun h:Heap=>True) w.heap:=trivial
      refine KLs (n:=(⟨63,[]⟩:Frm)) (w0:=w0) (fun y_67:Unit=>[(2,.pointer (some Xx2)),(3,.pointer (some Xx3)),(5,.pointer (some Xx14)),(30,(Xx48:Sl).v),(8,(Xx48:Sl).v),(31,(Xx48:Sl).v),(32,.pointer (some Xx51)),(33,.pointer (some ((Xx51).add 0))),(34,.int .i64 Xx52),(35,.bool (Xx52 != 2)),(37,(Xx48:Sl).v),(38,.pointer (some Xx56)),(36,(Xx57:Sl).v),(40,.int .i64 (Xx57.len:Int)),(39,.agg Xx58),(41,(Xx59:Sl).v),(42,(Xx61:Sl).v),(43,.pointer (some Xx62))]) 0 #[true,true,true,true,true,true,true,true,true,true] (M.unbind H) ?_ ?_
      ·intro y_67 a w hE hR H
       refine XL hT (by kernel_rfl) ?_
       exact hfin 0 _ _ hR H
      ·intro hj H
       refine KLt [8,9] hT (by kernel_rfl) rfl (fun i hi=>?_)
       simp only [List.mem_cons,List.not_mem_nil,or_false] at hi
       rcases hi with rfl | rfl
       ·replace H:=H.1
        obtain ⟨qz,H⟩:=H
        obtain ⟨u_63,qu_63,H⟩:=H
        refine KKt (S:=fun w:World=>(fun h:Heap=>True) w.heap) (i:=8) #[true,true,true,true,true,true,true,true,true,false] rfl rfl (by kernel_rfl) hE hR (KA rfl) (Z1 hE rfl rfl sz24 qz qu_63)  (fun _ _=>trivial) (fun a w hE hR hh hs=>?_)
        replace H:=M.at hh H; clear hh
        obtain ⟨u_64,qu_64,H⟩:=H
        refine KDW (i:=9) #[true,true,true,true,true,true,true,true,true,true] rfl rfl hT (by kernel_rfl) rfl hE hR (KA rfl) (ZT hE rfl rfl sz22 qu_64)  (fun a w hE hR hh=>?_)
        replace H:=M.at hh H; clear hh
        exact hj () _ _ (hE.cut (.cons rfl (.cons rfl (.cons rfl (.cons rfl (.cons rfl (.cons rfl (.cons rfl (.cons rfl (.cons rfl (.cons rfl (.cons rfl (.cons rfl (.cons rfl (.cons rfl (.cons rfl (.cons rfl (.cons rfl (.cons rfl Subs.nil))))))))))))))))))) hR H
       ·replace H:=H.2
        obtain ⟨u_65,qu_65,H⟩:=H
        refine KKt (S:=fun w:World=>(fun h:Heap=>True) w.heap) (i:=9) #[true,true,true,true,true,true,true,true,false,true] rfl rfl (by kernel_rfl) hE hR (KA rfl) (ZT hE rfl rfl sz22 qu_65)  (fun _ _=>trivial) (fun a w hE hR hh hs=>?_)
        replace H:=M.at hh H; clear hh
        obtain ⟨qz,H⟩:=H
        obtain ⟨u_66,qu_66,H⟩:=H
        refine KDW (i:=8) #[true,true,true,true,true,true,true,true,true,true] rfl rfl hT (by kernel_rfl) rfl hE hR (KA rfl) (Z1 hE rfl rfl sz24 qz qu_66)  (fun a w hE hR hh=>?_)
        replace H:=M.at hh H; clear hh
        exact hj () _ _ (hE.cut (.cons rfl (.cons rfl (.cons rfl (.cons rfl (.cons rfl (.cons rfl (.cons rfl (.cons rfl (.cons rfl (.cons rfl (.cons rfl (.cons rfl (.cons rfl (.cons rfl (.cons rfl (.cons rfl (.cons rfl (.cons rfl Subs.nil))))))))))))))))))) hR H
    ·skip
     replace hE:Env (⟨63,(j_68.2::xm_17)⟩:Frm) a [(0,(x0:Sl).v),(2,.pointer (some Xx2)),(3,.pointer (some Xx3)),(5,.pointer (some Xx14)),(18,(x0:Sl).v),(19,.int .i64 (x0.len:Int)),(20,.int .i64 Xx18)]:=Env.cut hE (.cons rfl (.cons rfl (.cons rfl (.cons rfl (.cons rfl (.cons rfl (.cons rfl Subs.nil)))))))
     refine KG4 (fun hj=>?_) (fun hj=>?_)
     ·replace H:=M.ite_t (decide_eq_true hj) H
      refine WZ ?_
      refine hret _ _ _ _ _ hE hR (M.unbind H) (fun w hR H=>?_)
      obtain ⟨Rr69,qRr69,H⟩:=H
      obtain ⟨Rr70,qRr70,H⟩:=H
      exact ⟨(Rr69,Rr70),_,Z2 hE rfl (RV.cell rfl sc9 qRr69 (RV.cell rfl sc29 qRr70 RV.nil)),rfl,H⟩
     ·replace H:=M.ite_f (decide_eq_false hj) H
      refine KIw ?_
      refine hK_28 _ _ ?_
      refine KD ?_
      refine KE (v:=.int .i64 (IntKind.wrap .i64 (Xx18+1))) rfl rfl hE rfl (ZL hE rfl rfl ZF NE) (fun a hE=>?_)
      refine KE (v:=.int .i64 (IntKind.wrap .i64 (Xx18+1))) rfl rfl hE rfl (KH hE rfl) (fun a hE=>?_)
      refine KU ?_
      exact hY_25 ((j_68.2::xm_17),IntKind.wrap .i64 (Xx18+1)) _ _ (hE.cut (.cons rfl (.cons rfl (.cons rfl (.cons rfl (.cons rfl (.cons rfl (.cons rfl Subs.nil)))))))) hR H
  ·replace H:=M.ite_f hb H
   refine KBt ?_
   refine Xu.same ?_
   refine hK_15 _ _ ?_
   refine KW (fun K hK_71=>?_)
   refine KD ?_
   obtain ⟨Xx72,qXx72,H⟩:=H
   refine KE (v:=(Xx72:Sl).v) rfl rfl hE rfl (ZR hE rfl sc22 qXx72) (fun a hE=>?_)
   refine J9 hE hR U5 rfl (U8) (M.unbind H) (fun Xx73 a w ea hR H=>?_)
   have hE:=Env.put_some hE rfl ea; clear ea
   refine KU ?_
   refine hK_71 _ _ ?_
   refine KW (fun K hK_74=>?_)
   refine KD ?_
   obtain ⟨Xx75,qXx75,H⟩:=H
   refine KE (v:=(Xx75:Sl).v) rfl rfl hE rfl (ZR hE rfl sc22 qXx75) (fun a hE=>?_)
   refine J9 hE hR Ub rfl (Ui Xx75 (Value.func (.func WA) #[] #[])) (M.unbind H) (fun Xx76 a w ea hR H=>?_)
   have hE:=Env.put_some hE rfl ea; clear ea
   obtain ⟨u_77,qu_77,H⟩:=H
   refine UF rfl rfl hE hR (ZT hE rfl rfl sz22 qu_77) (fun a w hE hR hh=>?_)
   replace H:=M.at hh H; clear hh
   refine KU ?_
   refine hK_74 _ _ ?_
   refine KW (fun K hK_78=>?_)
   refine KD ?_
   obtain ⟨Xx79,qXx79,H⟩:=H
   refine Wi (v:=.pointer (some Xx79)) rfl rfl hE rfl hR (Uv KPS qXx79) (fun a w hE hR hh=>?_)
   replace H:=M.at hh H; clear hh
   refine KU ?_
   refine hK_78 _ _ ?_
   refine KW (fun K hK_80=>?_)
   refine KD ?_
   refine KE (v:=(Value.func (.func Zb) #[] #[.pointer (some Xx14),.pointer (some Xx79)])) rfl rfl hE rfl (Nz hE rfl) (fun a hE=>?_)
   refine KE (v:=(Value.func (.func Zb) #[] #[.pointer (some Xx14),.pointer (some Xx79)])) rfl rfl hE rfl (KZ hE rfl) (fun a hE=>?_)
   refine KU ?_
   refine hK_80 _ _ ?_
   refine KW (fun K hK_81=>?_)
   refine KD ?_
   refine KE (v:=(Value.func (.func Zb) #[] #[.pointer (some Xx14),.pointer (some Xx79)])) rfl rfl hE rfl (KH hE rfl) (fun a hE=>?_)
   refine KD5 hE hR rfl rfl (M.unbind H) (fun Xx82 a w ea hR H=>?_)
   have hE:=Env.put_some hE rfl ea; clear ea
   refine KU ?_
   refine hK_81 _ _ ?_
   refine KW (fun K hK_83=>?_)
   refine KW (fun K hK_84=>?_)
   refine KD ?_
   refine KE (v:=(x0:Sl).v) rfl rfl hE rfl (KH hE rfl) (fun a hE=>?_)
   refine KE (v:=.int .i64 (x0.len:Int)) rfl rfl hE rfl (KHl hE rfl 24 un22) (fun a hE=>?_)
   refine KE (v:=.int .i64 0) rfl rfl hE rfl (KH hE rfl) (fun a hE=>?_)
   refine KU ?_
   refine hK_84 _ _ ?_
   refine Ut ?_
   refine KBz (fun (s:Int)=>(⟨63,xm_17⟩:Frm)) (fun (s:Int)=>[(2,.pointer (some Xx2)),(3,.pointer (some Xx3)),(9,.pointer (some Xx79)),(10,(Value.func (.func Zb) #[] #[.pointer (some Xx14),.pointer (some Xx79)])),(52,(x0:Sl).v),(53,.int .i64 (x0.len:Int)),(54,.int .i64 s)]) H (hE.cut (.cons rfl (.cons rfl (.cons rfl (.cons rfl (.cons rfl (.cons rfl (.cons rfl Subs.nil)))))))) hR (fun Y self3 hY_93 Xx85 a w hE hR H=>?_)
   replace hE:Env (⟨63,xm_17⟩:Frm) a [(2,.pointer (some Xx2)),(3,.pointer (some Xx3)),(9,.pointer (some Xx79)),(10,(Value.func (.func Zb) #[] #[.pointer (some Xx14),.pointer (some Xx79)])),(52,(x0:Sl).v),(53,.int .i64 (x0.len:Int)),(54,.int .i64 Xx85)]:=hE
   replace H:(WP xm_17 Xx2 Xx3 Xx79 (Value.func (.func Zb) #[] #[.pointer (some Xx14),.pointer (some Xx79)]) x0 (x0.len:Int) self3 Xx85).wp w.heap Q:=H
   unfold WP at H
   refine KW (fun K hK_94=>?_)
   refine KD ?_
   refine KE (v:=.bool (decide (Xx85 < (x0.len:Int)))) rfl rfl hE rfl (ZL hE rfl rfl ZF zP) (fun a hE=>?_)
   refine KU ?_
   refine hK_94 _ _ ?_
   refine KW (fun K hK_95=>?_)
   refine JE (decide (Xx85 < (x0.len:Int))) hE rfl (fun hb=>?_) (fun hb=>?_)
   ·replace H:=M.ite_t hb H
    refine J7 ?_
    refine hK_95 _ _ ?_
    refine KW (fun K hK_96=>?_)
    refine Ut ?_
    refine KW (fun K hK_97=>?_)
    refine KD ?_
    obtain ⟨Xx98,qXx98,H⟩:=H
    refine KE (v:=.pointer (some Xx98)) rfl rfl hE rfl (U9 hE rfl rfl un22 sz24 qXx98) (fun a hE=>?_)
    obtain ⟨Xx99,qXx99,H⟩:=H
    refine KE (v:=.agg Xx99) rfl rfl hE rfl (qZ hE rfl ag24 qXx99) (fun a hE=>?_)
    obtain ⟨Xx100,qXx100,H⟩:=H
    refine Wi (v:=.pointer (some Xx100)) rfl rfl hE rfl hR (Uv zr24 qXx100) (fun a w hE hR hh=>?_)
    replace H:=M.at hh H; clear hh
    obtain ⟨qz,H⟩:=H
    obtain ⟨u_101,qu_101,H⟩:=H
    refine UF rfl rfl hE hR (Z1 hE rfl rfl sz24 qz qu_101) (fun a w hE hR hh=>?_)
    replace H:=M.at hh H; clear hh
    refine KU ?_
    refine hK_97 _ _ ?_
    refine KD ?_
    refine KE (v:=(Value.func (.func Zb) #[] #[.pointer (some Xx14),.pointer (some Xx79)])) rfl rfl hE rfl (KH hE rfl) (fun a hE=>?_)
    refine KE (v:=(Value.func (.func VO) #[] #[.pointer (some Xx100)])) rfl rfl hE rfl (Nz hE rfl) (fun a hE=>?_)
    refine KD5 hE hR rfl rfl (M.unbind H) (fun Xx102 a w ea hR H=>?_)
    have hE:=Env.put_some hE rfl ea; clear ea
    refine KU ?_
    refine hK_96 _ _ ?_
    refine KD ?_
    refine KE (v:=.int .i64 (IntKind.wrap .i64 (Xx85+1))) rfl rfl hE rfl (ZL hE rfl rfl ZF NE) (fun a hE=>?_)
    refine KE (v:=.int .i64 (IntKind.wrap .i64 (Xx85+1))) rfl rfl hE rfl (KH hE rfl) (fun a hE=>?_)
    refine KU ?_
    exact hY_93 (IntKind.wrap .i64 (Xx85+1)) _ _ (hE.cut (.cons rfl (.cons rfl (.cons rfl (.cons rfl (.cons rfl (.cons rfl (.cons rfl Subs.nil)))))))) hR H
   ·replace H:=M.ite_f hb H
    refine KBt ?_
    refine Xu.same ?_
    refine hK_83 _ _ ?_
    refine KW (fun K hK_103=>?_)
    refine KD ?_
    refine J9 hE hR VZ rfl (Vu (some Xx79)) (M.unbind H) (fun Xx104 a w ea hR H=>?_)
    have hE:=Env.put_some hE rfl ea; clear ea
    obtain ⟨u_105,qu_105,H⟩:=H
    refine UF rfl rfl hE hR (ZT hE rfl rfl sz9 qu_105) (fun a w hE hR hh=>?_)
    replace H:=M.at hh H; clear hh
    obtain ⟨u_106,qu_106,H⟩:=H
    refine UF rfl rfl hE hR (ZT hE rfl rfl sz29 qu_106) (fun a w hE hR hh=>?_)
    replace H:=M.at hh H; clear hh
    refine KU ?_
    refine hK_103 _ _ ?_
    refine WZ ?_
    refine hret _ _ _ _ _ hE hR (M.unbind H) (fun w hR H=>?_)
    obtain ⟨Rr107,qRr107,H⟩:=H
    obtain ⟨Rr108,qRr108,H⟩:=H
    exact ⟨(Rr107,Rr108),_,Z2 hE rfl (RV.cell rfl sc9 qRr107 (RV.cell rfl sc29 qRr108 RV.nil)),rfl,H⟩
noncomputable def KDL:CalleeS Go.Proofs.Tryz.prog:=mkC KB8 KCD [.L] [.S,.I .i64] (fun (t:Sl)=>Vw t) (fun (t:Sl)=>KDK t)
def UQ :M (Bool):=do
 let Xx3←JT (⟨#[120]⟩:ByteArray)
 let Xx4←JS 1
 let y_6←GL 4 2 (#[.int .i64 0,.int .i64 0,.string ByteArray.empty,.slice none 0 0]:Array Value) [(0,.agg Xx3),(1,.agg Xx4)]
 let Xx5←bdL KB 2 y_6
 let Xx7←mkB KB (#[.int .i64 0,.int .i64 0,.string ByteArray.empty,.slice none 0 0]:Array Value)
 M.need ((#[.int .i64 5,.int .i64 0,.string ByteArray.empty,(Xx5:Sl).v]:Array Value).size=4)
 stG Xx7 (#[.int .i64 5,.int .i64 0,.string ByteArray.empty,(Xx5:Sl).v]:Array Value)
 let Xx10←JT (⟨#[121]⟩:ByteArray)
 let Xx11←JS 2
 let y_13←GL 4 2 (#[.int .i64 0,.int .i64 0,.string ByteArray.empty,.slice none 0 0]:Array Value) [(0,.agg Xx10),(1,.agg Xx11)]
 let Xx12←bdL KB 2 y_13
 let Xx14←mkB KB (#[.int .i64 0,.int .i64 0,.string ByteArray.empty,.slice none 0 0]:Array Value)
 M.need ((#[.int .i64 5,.int .i64 0,.string ByteArray.empty,(Xx12:Sl).v]:Array Value).size=4)
 stG Xx14 (#[.int .i64 5,.int .i64 0,.string ByteArray.empty,(Xx12:Sl).v]:Array Value)
 let Xx17←ldG 4 Xx7
 let Xx18←ldG 4 Xx14
 let y_20←GL 4 2 (#[.int .i64 0,.int .i64 0,.string ByteArray.empty,.slice none 0 0]:Array Value) [(0,.agg Xx17),(1,.agg Xx18)]
 let Xx19←bdL KB 2 y_20
 let Xx21←Vw Xx19
 let Xx23←JS 1
 let Xx24←JT (⟨#[97]⟩:ByteArray)
 let y_26←GL 4 2 (#[.int .i64 0,.int .i64 0,.string ByteArray.empty,.slice none 0 0]:Array Value) [(0,.agg Xx23),(1,.agg Xx24)]
 let Xx25←bdL KB 2 y_26
 let Xx27←Ue Xx25
 let Xx29←M.ite (sEq Xx21.1 (⟨#[39,120,39,32,124,32,39,121,39,10,49,32,124,32,45,10,45,32,124,32,50,10]⟩:ByteArray)) (do
  M.pure (Xx21.2 == 0)
  ) (do
  M.pure false
  )
 let Xx30←M.ite Xx29 (do
  M.pure (sEq Xx27.1 (⟨#[49,10,39,97,39,10]⟩:ByteArray))
  ) (do
  M.pure false
  )
 let Xx31←M.ite Xx30 (do
  M.pure (Xx27.2 == 0)
  ) (do
  M.pure false
  )
 M.pure Xx31
theorem q7 :Kn Go.Proofs.Tryz.prog 53 #[] (fun (r:Bool)=>.bool r) (UQ ) :=
 KM [KAw,KAy,z8,KDL] [] [.B] [] .o Go.Proofs.Tryz.func53 rfl rfl trivial rfl (by kernel_rfl) (by kernel_rfl)
noncomputable def q8:CalleeS Go.Proofs.Tryz.prog:=mkC qA qF [] [.B] (fun (t:Unit)=>UQ) (fun (t:Unit)=>q7)
def J6 (x0:Array Value) (x1:Array Value):M (Bool):=do
 let Xx2←mkB KB x0
 let Xx3←mkB KB x1
 let Xx5←ldG 4 Xx2
 let Xx6←ldG 4 Xx3
 let Xx7←JI Xx5 Xx6
 M.pure (Xx7 == 0)
theorem KAF (x0:Array Value) (x1:Array Value):Kn Go.Proofs.Tryz.prog 19 #[.agg x0,.agg x1] (fun (r:Bool)=>.bool r) (J6 x0 x1) :=
 KM [Nj] [] [.B] [(0,.G x0),(1,.G x1)] .o Go.Proofs.Tryz.func19 rfl rfl ⟨rfl,rfl,trivial⟩ rfl (by kernel_rfl) (by kernel_rfl)
noncomputable def X1:CalleeS Go.Proofs.Tryz.prog:=mkC qf qm [.G,.G] [.B] (fun (t:Array Value × Array Value)=>J6 t.1 t.2) (fun (t:Array Value × Array Value)=>KAF t.1 t.2)
def Uz (C8:Sl) (C9:Sl) (self1:(Int)→M (Bool)):(Int)→M (Bool):=fun s=>match s with
 | Xx7=>do
  M.ite (decide (Xx7 < (C8.len:Int))) (do
   let Xx15←ixL C8 Xx7 4
   let Xx16←ixL C9 Xx7 4
   let Xx17←ldG 4 Xx15
   let Xx18←ldG 4 Xx16
   let Xx19←J6 Xx17 Xx18
   M.ite (!Xx19) (do
    M.pure false
    ) (do
    self1 (IntKind.wrap .i64 (Xx7+1))
    )
   ) (do
   M.pure true
   )
def Jt (x0:Sl) (x1:Sl):M (Bool):=do
 M.ite ((x0.len:Int) != (x1.len:Int)) (do
  M.pure false
  ) (do
  M.loop (Uz x0 x1) 0
  )
theorem Nl (x0:Sl) (x1:Sl):Kn Go.Proofs.Tryz.prog 54 #[(x0:Sl).v,(x1:Sl).v] (fun (r:Bool)=>.bool r) (Jt x0 x1) :=
 KM [X1] [] [.B] [(0,.L x0),(1,.L x1)] (.q .o (.q .o (.q (.q .o (.b (.l [(0,.L),(1,.L)] [(5,.I .i64)] (fun (t:Sl × Sl)=>Uz t.1 t.2) (fun _=>.q .o (.q (.b (.q (.r [0,0,3,4,0,0,48,64,136,256] [0,0,3,4,0,0,48,64,136,256] [0,0,3,7,0,0,48,112,255,511] (.pu 0 (.pu 1 (.pu 2 (.pu 4 (.pu 5 (.pu 6 (.pu 3 (.pu 7 (.st [8,9] (.on 8 (.pu 9 (.nx .dn))))))))))))) .o)) .o))))) .o))) Go.Proofs.Tryz.func54 rfl rfl ⟨rfl,rfl,trivial⟩ rfl (by kernel_rfl) (by kernel_rfl)
noncomputable def Nm:CalleeS Go.Proofs.Tryz.prog:=mkC NG NI [.L,.L] [.B] (fun (t:Sl × Sl)=>Jt t.1 t.2) (fun (t:Sl × Sl)=>Nl t.1 t.2)
end Gx
