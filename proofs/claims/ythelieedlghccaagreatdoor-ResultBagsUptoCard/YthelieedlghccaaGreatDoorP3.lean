/- Printed by program: Go functions as Lean programs, each tied to its code. No condition. -/
import Derived.Test.YthelieedlghccaaGreatDoorP0
import Derived.Test.YthelieedlghccaaGreatDoorP1
import Derived.Test.YthelieedlghccaaGreatDoorP2
import Derived.Test.YthelieedlghccaaGreatDoorProg
import Derived.KernelRfl
import Derived.Lib.AtoiErrMem
import Derived.Shelf.Small.Bits
import Derived.Shelf.Small.Strs
import Derived.Shelf.Strconv.Itoa3
import Derived.Shelf.Strconv.ParseInt10All
import Derived.Shelf.Strings.Builder1
import Derived.Shelf.Strings.Count
import Derived.Shelf.Strings.Search1
import Derived.Shelf.Strings.Search2
import Derived.Shelf.Strings.SlTrimAscii
set_option linter.unusedVariables false
set_option linter.unusedSimpArgs false
namespace Gx
open Go
abbrev KDL:Nat:=108
abbrev KCI:Nat:=70
abbrev KAT:Nat:=71
abbrev KGk:Nat:=69
abbrev KEC:Nat:=125
abbrev KCJ:Nat:=126
abbrev YM:Nat:=127
abbrev XP:Nat:=243
abbrev J8:Nat:=198
abbrev GH:Nat:=201
abbrev Xj:Nat:=248
abbrev Yk:Nat:=229
abbrev XQ:Nat:=230
abbrev Yl:Nat:=249
abbrev Xk:Nat:=247
abbrev Xl:Nat:=228
abbrev N2:Nat:=227
abbrev Xm:Nat:=253
abbrev Gk:Nat:=158
abbrev YN:Nat:=187
abbrev Xn:Nat:=155
abbrev YO:Nat:=194
abbrev KCK:Nat:=217
abbrev NZ:Nat:=250
abbrev GI:Nat:=259
abbrev Nt:Nat:=114
abbrev KFe:Nat:=160
abbrev KIq:Nat:=109
abbrev KIr:Nat:=141
abbrev KAU:Nat:=53
abbrev zi:Nat:=157
abbrev KAV:Nat:=116
abbrev KBJ:Nat:=111
abbrev KBK:Nat:=199
abbrev zj:Nat:=162
abbrev KBL:Nat:=35
abbrev KAW:Nat:=25
abbrev Ua:Nat:=38
abbrev KCL:Nat:=27
abbrev KAX:Nat:=103
abbrev KAY:Nat:=185
abbrev Xo:Nat:=224
abbrev Na:Nat:=154
abbrev Nb:Nat:=188
abbrev Je:Nat:=193
abbrev Nc:Nat:=192
abbrev GJ:Nat:=190
abbrev N3:Nat:=191
abbrev Zo:Nat:=153
abbrev KBM:Nat:=19
abbrev KCM:Nat:=29
abbrev KBN:Nat:=99
abbrev Up:Nat:=139
abbrev KAZ:Nat:=189
abbrev KCN:Nat:=246
abbrev Vt:Nat:=84
abbrev KCO:Nat:=85
abbrev KAa:Nat:=140
abbrev VQ:Nat:=151
abbrev U2:Nat:=186
abbrev KBO:Nat:=86
abbrev KAb:Nat:=110
abbrev KBP:Nat:=60
abbrev KCP:Nat:=57
abbrev KAc:Nat:=102
abbrev qm:Nat:=59
abbrev KAd:Nat:=115
abbrev KBQ:Nat:=104
abbrev KGl:Nat:=56
abbrev qM:Nat:=119
abbrev KFf:Nat:=49
abbrev KCQ:Nat:=58
abbrev KAe:Nat:=112
abbrev KEp:Nat:=65
abbrev Zu:Nat:=122
abbrev WQ:Nat:=123
abbrev KEq:Nat:=94
abbrev KFg:Nat:=100
abbrev Zp:Nat:=136
abbrev WZ:Nat:=21
abbrev JH:Nat:=73
abbrev VM:Nat:=128
abbrev YJ:Nat:=159
abbrev Vo:Nat:=169
abbrev Yz:Nat:=200
abbrev Jt:Nat:=120
abbrev KAf:Nat:=156
abbrev KBR:Nat:=161
abbrev KAg:Nat:=234
abbrev qn:Nat:=235
abbrev zk:Nat:=233
abbrev zR:Nat:=232
abbrev KCR:Nat:=202
abbrev qo:Nat:=177
abbrev N4:Nat:=97
abbrev GK:Nat:=96
abbrev XR:Nat:=95
abbrev UL:Nat:=150
abbrev qp:Nat:=219
abbrev KCS:Nat:=72
abbrev KED:Nat:=55
abbrev KFh:Nat:=113
abbrev KEr:Nat:=134
abbrev KFi:Nat:=16
abbrev XI:Nat:=39
abbrev JB:Nat:=13
abbrev KHq:Nat:=36
abbrev KFj:Nat:=17
abbrev YP:Nat:=15
abbrev GL:Nat:=18
abbrev KHr:Nat:=74
abbrev KFk:Nat:=129
abbrev KFl:Nat:=133
abbrev GM:Nat:=75
abbrev X9:Nat:=176
abbrev WA:Nat:=131
abbrev GN:Nat:=76
abbrev KIs:Nat:=221
abbrev Y0:Nat:=246
abbrev KLi:Nat:=48
abbrev JZ:Nat:=124
abbrev UP:Nat:=29
abbrev KB:Nat:=24
abbrev KEs:Nat:=4
abbrev Gl:Nat:=60
abbrev VY:Nat:=3
abbrev Kx:Nat:=225
abbrev Uq:Nat:=228
abbrev Za:Nat:=168
abbrev VA:Nat:=22
abbrev KBS:Nat:=249
abbrev JD:Nat:=9
abbrev ZZ:Nat:=109
abbrev KY:Nat:=5
abbrev Gm:Nat:=146
abbrev JM:Nat:=142
theorem mo:Go.Proofs.Tryz.prog.follows .mixedOrders=true:=by kernel_rfl
theorem un22:Go.Proofs.Tryz.prog.underlying 22=some (.slice 24):=by kernel_rfl
theorem un3:Go.Proofs.Tryz.prog.underlying 3=some (.int .i64):=by kernel_rfl
theorem un35:Go.Proofs.Tryz.prog.underlying 35=some (.slice 5):=by kernel_rfl
theorem un5:Go.Proofs.Tryz.prog.underlying 5=some (.int .u8):=by kernel_rfl
theorem un9:Go.Proofs.Tryz.prog.underlying 9=some (.string):=by kernel_rfl
theorem KRl:((Go.Proofs.Tryz.prog.info? 109).bind (·.zero))=some (.agg (#[.pointer none,.slice none 0 0]:Array Value)):=by kernel_rfl
theorem KQl:((Go.Proofs.Tryz.prog.info? 142).bind (·.zero))=some (.agg (#[.int .i64 0]:Array Value)):=by kernel_rfl
theorem zr22:((Go.Proofs.Tryz.prog.info? 22).bind (·.zero))=some (.slice none 0 0):=by kernel_rfl
theorem zr24:((Go.Proofs.Tryz.prog.info? 24).bind (·.zero))=some (.agg (#[.int .i64 0,.int .i64 0,.string ByteArray.empty,.slice none 0 0]:Array Value)):=by kernel_rfl
theorem zr29:((Go.Proofs.Tryz.prog.info? 29).bind (·.zero))=some (.int .i64 0):=by kernel_rfl
theorem zr3:((Go.Proofs.Tryz.prog.info? 3).bind (·.zero))=some (.int .i64 0):=by kernel_rfl
theorem zr5:((Go.Proofs.Tryz.prog.info? 5).bind (·.zero))=some (.int .u8 0):=by kernel_rfl
theorem zr9:((Go.Proofs.Tryz.prog.info? 9).bind (·.zero))=some (.string ByteArray.empty):=by kernel_rfl
theorem ag24:agB Go.Proofs.Tryz.prog 24 4=true:=by kernel_rfl
theorem ap22:apB Go.Proofs.Tryz.prog 22 24 4 56 (#[.int .i64 0,.int .i64 0,.string ByteArray.empty,.slice none 0 0]:Array Value):=⟨un22,KBG (by kernel_rfl)⟩
theorem ap35:apB Go.Proofs.Tryz.prog 35 5 1 1 (#[.int .u8 0]:Array Value):=⟨un35,KBG (by kernel_rfl)⟩
theorem bd24:∀ w,(Instr.build 24 #[]).run Go.Proofs.Tryz.prog w=.ok (.agg (#[.int .i64 0,.int .i64 0,.string ByteArray.empty,.slice none 0 0]:Array Value)) w:=fun w=>by kernel_rfl
theorem KDM:Callee? Go.Proofs.Tryz.prog 108:=KD Go.Proofs.Tryz.func108 (by kernel_rfl) rfl
theorem KCT:Callee? Go.Proofs.Tryz.prog 70:=KD Go.Proofs.Tryz.func70 (by kernel_rfl) rfl
theorem KAh:Callee? Go.Proofs.Tryz.prog 71:=KD Go.Proofs.Tryz.func71 (by kernel_rfl) rfl
theorem KGm:Callee? Go.Proofs.Tryz.prog 69:=KD Go.Proofs.Tryz.func69 (by kernel_rfl) rfl
theorem KEE:Callee? Go.Proofs.Tryz.prog 125:=KD Go.Proofs.Tryz.func125 (by kernel_rfl) rfl
theorem KCU:Callee? Go.Proofs.Tryz.prog 126:=KD Go.Proofs.Tryz.func126 (by kernel_rfl) rfl
theorem YQ:Callee? Go.Proofs.Tryz.prog 127:=KD Go.Proofs.Tryz.func127 (by kernel_rfl) rfl
theorem Xp:Callee? Go.Proofs.Tryz.prog 198:=KD Go.Proofs.Tryz.func198 (by kernel_rfl) rfl
theorem GO:Callee? Go.Proofs.Tryz.prog 201:=KD Go.Proofs.Tryz.func201 (by kernel_rfl) rfl
theorem Xq:Callee? Go.Proofs.Tryz.prog 248:=KD Go.Proofs.Tryz.func248 (by kernel_rfl) rfl
theorem Ym:Callee? Go.Proofs.Tryz.prog 229:=KD Go.Proofs.Tryz.func229 (by kernel_rfl) rfl
theorem XS:Callee? Go.Proofs.Tryz.prog 230:=KD Go.Proofs.Tryz.func230 (by kernel_rfl) rfl
theorem Yn:Callee? Go.Proofs.Tryz.prog 249:=KD Go.Proofs.Tryz.func249 (by kernel_rfl) rfl
theorem Xs:Callee? Go.Proofs.Tryz.prog 247:=KD Go.Proofs.Tryz.func247 (by kernel_rfl) rfl
theorem Xt:Callee? Go.Proofs.Tryz.prog 228:=KD Go.Proofs.Tryz.func228 (by kernel_rfl) rfl
theorem N5:Callee? Go.Proofs.Tryz.prog 227:=KD Go.Proofs.Tryz.func227 (by kernel_rfl) rfl
theorem Xv:Callee? Go.Proofs.Tryz.prog 253:=KD Go.Proofs.Tryz.func253 (by kernel_rfl) rfl
theorem Gp:Callee? Go.Proofs.Tryz.prog 158:=KD Go.Proofs.Tryz.func158 (by kernel_rfl) rfl
theorem YR:Callee? Go.Proofs.Tryz.prog 187:=KD Go.Proofs.Tryz.func187 (by kernel_rfl) rfl
theorem Xw:Callee? Go.Proofs.Tryz.prog 155:=KD Go.Proofs.Tryz.func155 (by kernel_rfl) rfl
theorem YS:Callee? Go.Proofs.Tryz.prog 194:=KD Go.Proofs.Tryz.func194 (by kernel_rfl) rfl
theorem KCV:Callee? Go.Proofs.Tryz.prog 217:=KD Go.Proofs.Tryz.func217 (by kernel_rfl) rfl
theorem Nd:Callee? Go.Proofs.Tryz.prog 250:=KD Go.Proofs.Tryz.func250 (by kernel_rfl) rfl
theorem GP:Callee? Go.Proofs.Tryz.prog 259:=KD Go.Proofs.Tryz.func259 (by kernel_rfl) rfl
theorem KD1:Callee? Go.Proofs.Tryz.prog 114:=KD Go.Proofs.Tryz.func114 (by kernel_rfl) rfl
theorem KFm:Callee? Go.Proofs.Tryz.prog 160:=KD Go.Proofs.Tryz.func160 (by kernel_rfl) rfl
theorem KIt:Callee? Go.Proofs.Tryz.prog 109:=KD Go.Proofs.Tryz.func109 (by kernel_rfl) rfl
theorem KIu:Callee? Go.Proofs.Tryz.prog 141:=KD Go.Proofs.Tryz.func141 (by kernel_rfl) rfl
theorem KAi:Callee? Go.Proofs.Tryz.prog 53:=KD Go.Proofs.Tryz.func53 (by kernel_rfl) rfl
theorem zl:Callee? Go.Proofs.Tryz.prog 157:=KD Go.Proofs.Tryz.func157 (by kernel_rfl) rfl
theorem KAj:Callee? Go.Proofs.Tryz.prog 116:=KD Go.Proofs.Tryz.func116 (by kernel_rfl) rfl
theorem KBT:Callee? Go.Proofs.Tryz.prog 111:=KD Go.Proofs.Tryz.func111 (by kernel_rfl) rfl
theorem KBU:Callee? Go.Proofs.Tryz.prog 199:=KD Go.Proofs.Tryz.func199 (by kernel_rfl) rfl
theorem zm:Callee? Go.Proofs.Tryz.prog 162:=KD Go.Proofs.Tryz.func162 (by kernel_rfl) rfl
theorem KBV:Callee? Go.Proofs.Tryz.prog 35:=KD Go.Proofs.Tryz.func35 (by kernel_rfl) rfl
theorem KAk:Callee? Go.Proofs.Tryz.prog 25:=KD Go.Proofs.Tryz.func25 (by kernel_rfl) rfl
theorem Ys:Callee? Go.Proofs.Tryz.prog 38:=KD Go.Proofs.Tryz.func38 (by kernel_rfl) rfl
theorem KCW:Callee? Go.Proofs.Tryz.prog 27:=KD Go.Proofs.Tryz.func27 (by kernel_rfl) rfl
theorem KAl:Callee? Go.Proofs.Tryz.prog 103:=KD Go.Proofs.Tryz.func103 (by kernel_rfl) rfl
theorem KAm:Callee? Go.Proofs.Tryz.prog 185:=KD Go.Proofs.Tryz.func185 (by kernel_rfl) rfl
theorem Xx:Callee? Go.Proofs.Tryz.prog 224:=KD Go.Proofs.Tryz.func224 (by kernel_rfl) rfl
theorem Ng:Callee? Go.Proofs.Tryz.prog 154:=KD Go.Proofs.Tryz.func154 (by kernel_rfl) rfl
theorem Nh:Callee? Go.Proofs.Tryz.prog 188:=KD Go.Proofs.Tryz.func188 (by kernel_rfl) rfl
theorem Ni:Callee? Go.Proofs.Tryz.prog 193:=KD Go.Proofs.Tryz.func193 (by kernel_rfl) rfl
theorem Nj:Callee? Go.Proofs.Tryz.prog 192:=KD Go.Proofs.Tryz.func192 (by kernel_rfl) rfl
theorem GQ:Callee? Go.Proofs.Tryz.prog 190:=KD Go.Proofs.Tryz.func190 (by kernel_rfl) rfl
theorem N6:Callee? Go.Proofs.Tryz.prog 191:=KD Go.Proofs.Tryz.func191 (by kernel_rfl) rfl
theorem WB:Callee? Go.Proofs.Tryz.prog 153:=KD Go.Proofs.Tryz.func153 (by kernel_rfl) rfl
theorem KBW:Callee? Go.Proofs.Tryz.prog 19:=KD Go.Proofs.Tryz.func19 (by kernel_rfl) rfl
theorem KCX:Callee? Go.Proofs.Tryz.prog 29:=KD Go.Proofs.Tryz.func29 (by kernel_rfl) rfl
theorem KBX:Callee? Go.Proofs.Tryz.prog 99:=KD Go.Proofs.Tryz.func99 (by kernel_rfl) rfl
theorem KCY:Callee? Go.Proofs.Tryz.prog 139:=KD Go.Proofs.Tryz.func139 (by kernel_rfl) rfl
theorem KAn:Callee? Go.Proofs.Tryz.prog 189:=KD Go.Proofs.Tryz.func189 (by kernel_rfl) rfl
theorem KCZ:Callee? Go.Proofs.Tryz.prog 246:=KD Go.Proofs.Tryz.func246 (by kernel_rfl) rfl
theorem Nu:Callee? Go.Proofs.Tryz.prog 84:=KD Go.Proofs.Tryz.func84 (by kernel_rfl) rfl
theorem KCa:Callee? Go.Proofs.Tryz.prog 85:=KD Go.Proofs.Tryz.func85 (by kernel_rfl) rfl
theorem KAo:Callee? Go.Proofs.Tryz.prog 140:=KD Go.Proofs.Tryz.func140 (by kernel_rfl) rfl
theorem Gr:Callee? Go.Proofs.Tryz.prog 151:=KD Go.Proofs.Tryz.func151 (by kernel_rfl) rfl
theorem KAp:Callee? Go.Proofs.Tryz.prog 186:=KD Go.Proofs.Tryz.func186 (by kernel_rfl) rfl
theorem KBY:Callee? Go.Proofs.Tryz.prog 86:=KD Go.Proofs.Tryz.func86 (by kernel_rfl) rfl
theorem KAq:Callee? Go.Proofs.Tryz.prog 110:=KD Go.Proofs.Tryz.func110 (by kernel_rfl) rfl
theorem KBZ:Callee? Go.Proofs.Tryz.prog 60:=KD Go.Proofs.Tryz.func60 (by kernel_rfl) rfl
theorem KCb:Callee? Go.Proofs.Tryz.prog 57:=KD Go.Proofs.Tryz.func57 (by kernel_rfl) rfl
theorem KAr:Callee? Go.Proofs.Tryz.prog 102:=KD Go.Proofs.Tryz.func102 (by kernel_rfl) rfl
theorem qq:Callee? Go.Proofs.Tryz.prog 59:=KD Go.Proofs.Tryz.func59 (by kernel_rfl) rfl
theorem KAs:Callee? Go.Proofs.Tryz.prog 115:=KD Go.Proofs.Tryz.func115 (by kernel_rfl) rfl
theorem KBa:Callee? Go.Proofs.Tryz.prog 104:=KD Go.Proofs.Tryz.func104 (by kernel_rfl) rfl
theorem KGn:Callee? Go.Proofs.Tryz.prog 56:=KD Go.Proofs.Tryz.func56 (by kernel_rfl) rfl
theorem KEt:Callee? Go.Proofs.Tryz.prog 64:=KD Go.Proofs.Tryz.func64 (by kernel_rfl) rfl
theorem KDN:Callee? Go.Proofs.Tryz.prog 119:=KD Go.Proofs.Tryz.func119 (by kernel_rfl) rfl
theorem KFn:Callee? Go.Proofs.Tryz.prog 49:=KD Go.Proofs.Tryz.func49 (by kernel_rfl) rfl
theorem KCc:Callee? Go.Proofs.Tryz.prog 58:=KD Go.Proofs.Tryz.func58 (by kernel_rfl) rfl
theorem KAt:Callee? Go.Proofs.Tryz.prog 112:=KD Go.Proofs.Tryz.func112 (by kernel_rfl) rfl
theorem KEu:Callee? Go.Proofs.Tryz.prog 65:=KD Go.Proofs.Tryz.func65 (by kernel_rfl) rfl
theorem qN:Callee? Go.Proofs.Tryz.prog 122:=KD Go.Proofs.Tryz.func122 (by kernel_rfl) rfl
theorem KDO:Callee? Go.Proofs.Tryz.prog 123:=KD Go.Proofs.Tryz.func123 (by kernel_rfl) rfl
theorem zn:Callee? Go.Proofs.Tryz.prog 94:=KD Go.Proofs.Tryz.func94 (by kernel_rfl) rfl
theorem KFo:Callee? Go.Proofs.Tryz.prog 100:=KD Go.Proofs.Tryz.func100 (by kernel_rfl) rfl
theorem Wa:Callee? Go.Proofs.Tryz.prog 78:=KD Go.Proofs.Tryz.func78 (by kernel_rfl) rfl
theorem WC:Callee? Go.Proofs.Tryz.prog 136:=KD Go.Proofs.Tryz.func136 (by kernel_rfl) rfl
theorem Wb:Callee? Go.Proofs.Tryz.prog 21:=KD Go.Proofs.Tryz.func21 (by kernel_rfl) rfl
theorem VR:Callee? Go.Proofs.Tryz.prog 121:=KD Go.Proofs.Tryz.func121 (by kernel_rfl) rfl
theorem JI:Callee? Go.Proofs.Tryz.prog 73:=KD Go.Proofs.Tryz.func73 (by kernel_rfl) rfl
theorem VN:Callee? Go.Proofs.Tryz.prog 128:=KD Go.Proofs.Tryz.func128 (by kernel_rfl) rfl
theorem YK:Callee? Go.Proofs.Tryz.prog 159:=KD Go.Proofs.Tryz.func159 (by kernel_rfl) rfl
theorem Vp:Callee? Go.Proofs.Tryz.prog 169:=KD Go.Proofs.Tryz.func169 (by kernel_rfl) rfl
theorem Y1:Callee? Go.Proofs.Tryz.prog 200:=KD Go.Proofs.Tryz.func200 (by kernel_rfl) rfl
theorem Vv:Callee? Go.Proofs.Tryz.prog 120:=KD Go.Proofs.Tryz.func120 (by kernel_rfl) rfl
theorem KAu:Callee? Go.Proofs.Tryz.prog 156:=KD Go.Proofs.Tryz.func156 (by kernel_rfl) rfl
theorem KBb:Callee? Go.Proofs.Tryz.prog 161:=KD Go.Proofs.Tryz.func161 (by kernel_rfl) rfl
theorem KAv:Callee? Go.Proofs.Tryz.prog 234:=KD Go.Proofs.Tryz.func234 (by kernel_rfl) rfl
theorem qt:Callee? Go.Proofs.Tryz.prog 235:=KD Go.Proofs.Tryz.func235 (by kernel_rfl) rfl
theorem zo:Callee? Go.Proofs.Tryz.prog 233:=KD Go.Proofs.Tryz.func233 (by kernel_rfl) rfl
theorem zS:Callee? Go.Proofs.Tryz.prog 232:=KD Go.Proofs.Tryz.func232 (by kernel_rfl) rfl
theorem KCd:Callee? Go.Proofs.Tryz.prog 202:=KD Go.Proofs.Tryz.func202 (by kernel_rfl) rfl
theorem qu:Callee? Go.Proofs.Tryz.prog 177:=KD Go.Proofs.Tryz.func177 (by kernel_rfl) rfl
theorem Wm:Callee? Go.Proofs.Tryz.prog 97:=KD Go.Proofs.Tryz.func97 (by kernel_rfl) rfl
theorem GR:Callee? Go.Proofs.Tryz.prog 96:=KD Go.Proofs.Tryz.func96 (by kernel_rfl) rfl
theorem XT:Callee? Go.Proofs.Tryz.prog 95:=KD Go.Proofs.Tryz.func95 (by kernel_rfl) rfl
theorem UM:Callee? Go.Proofs.Tryz.prog 150:=KD Go.Proofs.Tryz.func150 (by kernel_rfl) rfl
theorem qv:Callee? Go.Proofs.Tryz.prog 219:=KD Go.Proofs.Tryz.func219 (by kernel_rfl) rfl
theorem KCe:Callee? Go.Proofs.Tryz.prog 72:=KD Go.Proofs.Tryz.func72 (by kernel_rfl) rfl
theorem KEF:Callee? Go.Proofs.Tryz.prog 55:=KD Go.Proofs.Tryz.func55 (by kernel_rfl) rfl
theorem KFp:Callee? Go.Proofs.Tryz.prog 113:=KD Go.Proofs.Tryz.func113 (by kernel_rfl) rfl
theorem KAw:Callee? Go.Proofs.Tryz.prog 152:=KD Go.Proofs.Tryz.func152 (by kernel_rfl) rfl
theorem GA:Callee? Go.Proofs.Tryz.prog 242:=KD Go.Proofs.Tryz.func242 (by kernel_rfl) rfl
theorem KEv:Callee? Go.Proofs.Tryz.prog 134:=KD Go.Proofs.Tryz.func134 (by kernel_rfl) rfl
theorem KCf:Callee? Go.Proofs.Tryz.prog 34:=KD Go.Proofs.Tryz.func34 (by kernel_rfl) rfl
theorem KFq:Callee? Go.Proofs.Tryz.prog 16:=KD Go.Proofs.Tryz.func16 (by kernel_rfl) rfl
theorem KA8:Callee? Go.Proofs.Tryz.prog 39:=KD Go.Proofs.Tryz.func39 (by kernel_rfl) rfl
theorem zK:Callee? Go.Proofs.Tryz.prog 13:=KD Go.Proofs.Tryz.func13 (by kernel_rfl) rfl
theorem KHs:Callee? Go.Proofs.Tryz.prog 36:=KD Go.Proofs.Tryz.func36 (by kernel_rfl) rfl
theorem KHt:Callee? Go.Proofs.Tryz.prog 26:=KD Go.Proofs.Tryz.func26 (by kernel_rfl) rfl
theorem KFr:Callee? Go.Proofs.Tryz.prog 17:=KD Go.Proofs.Tryz.func17 (by kernel_rfl) rfl
theorem KCg:Callee? Go.Proofs.Tryz.prog 15:=KD Go.Proofs.Tryz.func15 (by kernel_rfl) rfl
theorem KHu:Callee? Go.Proofs.Tryz.prog 28:=KD Go.Proofs.Tryz.func28 (by kernel_rfl) rfl
theorem KCh:Callee? Go.Proofs.Tryz.prog 18:=KD Go.Proofs.Tryz.func18 (by kernel_rfl) rfl
theorem N7:Callee? Go.Proofs.Tryz.prog 171:=KD Go.Proofs.Tryz.func171 (by kernel_rfl) rfl
theorem KHv:Callee? Go.Proofs.Tryz.prog 74:=KD Go.Proofs.Tryz.func74 (by kernel_rfl) rfl
theorem KFs:Callee? Go.Proofs.Tryz.prog 129:=KD Go.Proofs.Tryz.func129 (by kernel_rfl) rfl
theorem KFt:Callee? Go.Proofs.Tryz.prog 133:=KD Go.Proofs.Tryz.func133 (by kernel_rfl) rfl
theorem KGo:Callee? Go.Proofs.Tryz.prog 75:=KD Go.Proofs.Tryz.func75 (by kernel_rfl) rfl
theorem YT:Callee? Go.Proofs.Tryz.prog 175:=KD Go.Proofs.Tryz.func175 (by kernel_rfl) rfl
theorem qw:Callee? Go.Proofs.Tryz.prog 218:=KD Go.Proofs.Tryz.func218 (by kernel_rfl) rfl
theorem ZH:Callee? Go.Proofs.Tryz.prog 132:=KD Go.Proofs.Tryz.func132 (by kernel_rfl) rfl
theorem Kw:Callee? Go.Proofs.Tryz.prog 170:=KD Go.Proofs.Tryz.func170 (by kernel_rfl) rfl
theorem GB:Callee? Go.Proofs.Tryz.prog 176:=KD Go.Proofs.Tryz.func176 (by kernel_rfl) rfl
theorem Zh:Callee? Go.Proofs.Tryz.prog 174:=KD Go.Proofs.Tryz.func174 (by kernel_rfl) rfl
theorem Yt:Callee? Go.Proofs.Tryz.prog 172:=KD Go.Proofs.Tryz.func172 (by kernel_rfl) rfl
theorem KBc:Callee? Go.Proofs.Tryz.prog 173:=KD Go.Proofs.Tryz.func173 (by kernel_rfl) rfl
theorem WD:Callee? Go.Proofs.Tryz.prog 131:=KD Go.Proofs.Tryz.func131 (by kernel_rfl) rfl
theorem KCi:Callee? Go.Proofs.Tryz.prog 76:=KD Go.Proofs.Tryz.func76 (by kernel_rfl) rfl
theorem Xy:KGU Go.Proofs.Tryz.prog 146 0=some 0:=by kernel_rfl
theorem Zi:KGU Go.Proofs.Tryz.prog 146 1=some 1:=by kernel_rfl
theorem KOV:KGU Go.Proofs.Tryz.prog 24 0=some 0:=by kernel_rfl
theorem KQm:KGU Go.Proofs.Tryz.prog 24 3=some 3:=by kernel_rfl
theorem KRm:niB Go.Proofs.Tryz.prog 142=true:=by kernel_rfl
theorem KRn:Ns Go.Proofs.Tryz.prog 142=some [(0,1)]:=by kernel_rfl
theorem pl24:Ns Go.Proofs.Tryz.prog 24=some [(0,1),(1,1),(2,1),(3,1)]:=by kernel_rfl
theorem sc22:scB Go.Proofs.Tryz.prog 22=true:=by kernel_rfl
theorem sc29:scB Go.Proofs.Tryz.prog 29=true:=by kernel_rfl
theorem sc3:scB Go.Proofs.Tryz.prog 3=true:=by kernel_rfl
theorem sc48:scB Go.Proofs.Tryz.prog 48=true:=by kernel_rfl
theorem sc9:scB Go.Proofs.Tryz.prog 9=true:=by kernel_rfl
theorem sz22:szB Go.Proofs.Tryz.prog 22 1=true:=by kernel_rfl
theorem sz24:szB Go.Proofs.Tryz.prog 24 4=true:=by kernel_rfl
theorem sz29:szB Go.Proofs.Tryz.prog 29 1=true:=by kernel_rfl
theorem sz3:szB Go.Proofs.Tryz.prog 3 1=true:=by kernel_rfl
theorem sz5:szB Go.Proofs.Tryz.prog 5 1=true:=by kernel_rfl
theorem sz9:szB Go.Proofs.Tryz.prog 9 1=true:=by kernel_rfl
end Gx
namespace Gx
open Go Go.Proofs Go.Shelf Go.Sort Go.RowKit
set_option linter.unusedVariables false
set_option linter.unusedSimpArgs false
set_option maxRecDepth 100000
def KD2:Go.Shelf.Ren:=⟨fun | 119=>245 | 120=>223 | 125=>167 | 128=>216 | 129=>217 | 137=>242 | 138=>55 | 143=>107 | 151=>182 | 152=>222 | 160=>92 | 195=>105 | 197=>181 | 213=>127 | 217=>194 | 218=>106 | 219=>155 | 224=>196 | 225=>195 | 227=>145 | 228=>180 | 231=>143 | 232=>144 | 233=>146 | 234=>147 | 235=>148 | 236=>149 | 240=>150 | 246=>198 | 247=>201 | 260=>221 | 265=>168 | 266=>225 | 267=>197 | 271=>183 | 276=>184 | 283=>227 | 284=>228 | 285=>229 | 286=>230 | 287=>231 | 314=>226 | 317=>247 | 318=>248 | 319=>249 | 320=>250 | 321=>251 | 322=>252 | 337=>258 | 338=>259 | n=>n,fun | 0=>0 | 2=>2 | 3=>3 | 4=>4 | 5=>5 | 9=>9 | 20=>20 | 21=>21 | 37=>35 | 46=>184 | 51=>215 | 53=>154 | 70=>107 | 72=>109 | 75=>111 | 80=>115 | 105=>191 | 116=>160 | 117=>161 | 119=>238 | 124=>164 | 138=>240 | 139=>241 | 146=>218 | 164=>194 | 167=>225 | 171=>221 | 173=>223 | 175=>226 | 212=>245 | 213=>246 | 232=>258 | 233=>259 | n=>n,fun | 1=>0 | 3=>1 | 4=>2 | 17=>3 | 18=>6 | 19=>7 | n=>n⟩
theorem KGp:Lays.n213 Go.Proofs.Tryz.prog KD2:={
 mixed:=by kernel_rfl
 f213:=Tryz.func127.trans (congrArg some (by kernel_rfl))
 f265:=Tryz.func168.trans (congrArg some (by kernel_rfl))
 t3:=Tryz.underlying3
 a3:=Tryz.isAgg3
 z3:=Tryz.sizeOf3
 v3:=Tryz.zeroValue3
 t9:=Tryz.underlying9
 a9:=Tryz.isAgg9
 z9:=Tryz.sizeOf9
 v9:=Tryz.zeroValue9 }
theorem KGq:Lays.n219 Go.Proofs.Tryz.prog KD2:={
 mixed:=by kernel_rfl
 f217:=Tryz.func194.trans (congrArg some (by kernel_rfl))
 f219:=Tryz.func155.trans (congrArg some (by kernel_rfl))
 f224:=Tryz.func196.trans (congrArg some (by kernel_rfl))
 f225:=Tryz.func195.trans (congrArg some (by kernel_rfl))
 f266:=Tryz.func225.trans (congrArg some (by kernel_rfl))
 f267:=Tryz.func197.trans (congrArg some (by kernel_rfl))
 f314:=Tryz.func226.trans (congrArg some (by kernel_rfl))
 t3:=Tryz.underlying3
 a3:=Tryz.isAgg3
 z3:=Tryz.sizeOf3
 v3:=Tryz.zeroValue3
 t4:=Tryz.underlying4
 a4:=Tryz.isAgg4
 z4:=Tryz.sizeOf4
 v4:=Tryz.zeroValue4
 t5:=Tryz.underlying5
 a5:=Tryz.isAgg5
 z5:=Tryz.sizeOf5
 v5:=Tryz.zeroValue5
 t9:=Tryz.underlying9
 a9:=Tryz.isAgg9
 z9:=Tryz.sizeOf9
 v9:=Tryz.zeroValue9
 t46:=Tryz.underlying184
 a46:=Tryz.isAgg184
 z46:=Tryz.sizeOf184
 v46:=Tryz.zeroValue184
 t51:=Tryz.underlying215
 a51:=Tryz.isAgg215
 z51:=Tryz.sizeOf215
 v51:=Tryz.zeroValue215
 t146:=Tryz.underlying218
 a146:=Tryz.isAgg218
 z146:=Tryz.sizeOf218
 v146:=Tryz.zeroValue218
 g1:=by kernel_rfl }
theorem KGr:Lays.n217 Go.Proofs.Tryz.prog KD2:={
 mixed:=by kernel_rfl
 f217:=Tryz.func194.trans (congrArg some (by kernel_rfl))
 f266:=Tryz.func225.trans (congrArg some (by kernel_rfl))
 t3:=Tryz.underlying3
 a3:=Tryz.isAgg3
 z3:=Tryz.sizeOf3
 v3:=Tryz.zeroValue3
 t5:=Tryz.underlying5
 a5:=Tryz.isAgg5
 z5:=Tryz.sizeOf5
 v5:=Tryz.zeroValue5
 t9:=Tryz.underlying9
 a9:=Tryz.isAgg9
 z9:=Tryz.sizeOf9
 v9:=Tryz.zeroValue9 }
theorem KFu:LaysC.n247 Go.Proofs.Tryz.prog KD2:={
 mixed:=by kernel_rfl
 f247:=Tryz.func201.trans (congrArg some (by kernel_rfl))
 f287:=Tryz.func231.trans (congrArg some (by kernel_rfl))
 f321:=Tryz.func251.trans (congrArg some (by kernel_rfl))
 f322:=Tryz.func252.trans (congrArg some (by kernel_rfl))
 t0:=Tryz.underlying0
 a0:=Tryz.isAgg0
 z0:=Tryz.sizeOf0
 v0:=Tryz.zeroValue0
 t2:=Tryz.underlying2
 a2:=Tryz.isAgg2
 z2:=Tryz.sizeOf2
 v2:=Tryz.zeroValue2
 t3:=Tryz.underlying3
 a3:=Tryz.isAgg3
 z3:=Tryz.sizeOf3
 v3:=Tryz.zeroValue3
 t4:=Tryz.underlying4
 a4:=Tryz.isAgg4
 z4:=Tryz.sizeOf4
 v4:=Tryz.zeroValue4
 t5:=Tryz.underlying5
 a5:=Tryz.isAgg5
 z5:=Tryz.sizeOf5
 v5:=Tryz.zeroValue5
 t9:=Tryz.underlying9
 a9:=Tryz.isAgg9
 z9:=Tryz.sizeOf9
 v9:=Tryz.zeroValue9
 t21:=Tryz.underlying21
 a21:=Tryz.isAgg21
 z21:=Tryz.sizeOf21
 v21:=Tryz.zeroValue21
 t37:=Tryz.underlying35
 a37:=Tryz.isAgg35
 z37:=Tryz.sizeOf35
 v37:=Tryz.zeroValue35
 t46:=Tryz.underlying184
 a46:=Tryz.isAgg184
 z46:=Tryz.sizeOf184
 v46:=Tryz.zeroValue184
 t53:=Tryz.underlying154
 a53:=Tryz.isAgg154
 z53:=Tryz.sizeOf154
 v53:=Tryz.zeroValue154
 t75:=Tryz.underlying111
 a75:=Tryz.isAgg111
 z75:=Tryz.sizeOf111
 v75:=Tryz.zeroValue111
 t167:=Tryz.underlying225
 a167:=Tryz.isAgg225
 z167:=Tryz.sizeOf225
 v167:=Tryz.zeroValue225
 t175:=Tryz.underlying226
 a175:=Tryz.isAgg226
 z175:=Tryz.sizeOf226
 v175:=Tryz.zeroValue226
 t80:=Tryz.underlying115
 a80:=Tryz.isAgg115
 z80:=Tryz.sizeOf115
 v80:=Tryz.zeroValue115
 i0:=by kernel_rfl
 i2:=by kernel_rfl
 i3:=by kernel_rfl
 i4:=by kernel_rfl
 i5:=by kernel_rfl
 i9:=by kernel_rfl
 i21:=by kernel_rfl
 i37:=by kernel_rfl
 i46:=by kernel_rfl
 i53:=by kernel_rfl
 i75:=by kernel_rfl
 i80:=by kernel_rfl
 i167:=by kernel_rfl
 i175:=by kernel_rfl
 c0:=by kernel_rfl
 c2:=by kernel_rfl
 c3:=by kernel_rfl
 c4:=by kernel_rfl
 c5:=by kernel_rfl
 c9:=by kernel_rfl
 c21:=by kernel_rfl
 c37:=by kernel_rfl
 c46:=by kernel_rfl
 c53:=by kernel_rfl
 c75:=by kernel_rfl
 c80:=by kernel_rfl
 c167:=by kernel_rfl
 c175:=by kernel_rfl }
theorem KCj:Lays.n240 Go.Proofs.Tryz.prog KD2:={
 mixed:=by kernel_rfl
 f240:=Tryz.func150.trans (congrArg some (by kernel_rfl))
 f276:=Tryz.func184.trans (congrArg some (by kernel_rfl))
 t0:=Tryz.underlying0
 a0:=Tryz.isAgg0
 z0:=Tryz.sizeOf0
 v0:=Tryz.zeroValue0
 t4:=Tryz.underlying4
 a4:=Tryz.isAgg4
 z4:=Tryz.sizeOf4
 v4:=Tryz.zeroValue4
 t9:=Tryz.underlying9
 a9:=Tryz.isAgg9
 z9:=Tryz.sizeOf9
 v9:=Tryz.zeroValue9
 t20:=Tryz.underlying20
 a20:=Tryz.isAgg20
 z20:=Tryz.sizeOf20
 v20:=Tryz.zeroValue20
 t70:=Tryz.underlying107
 a70:=Tryz.isAgg107
 z70:=Tryz.sizeOf107
 v70:=Tryz.zeroValue107
 t72:=Tryz.underlying109
 a72:=Tryz.isAgg109
 z72:=Tryz.sizeOf109
 v72:=Tryz.zeroValue109
 t164:=Tryz.underlying194
 a164:=Tryz.isAgg194
 z164:=Tryz.sizeOf194
 v164:=Tryz.zeroValue194 }
theorem KFv:LaysM.n246 Go.Proofs.Tryz.prog KD2:={
 mixed:=by kernel_rfl
 f129:=Tryz.func217.trans (congrArg some (by kernel_rfl))
 f246:=Tryz.func198.trans (congrArg some (by kernel_rfl))
 f283:=Tryz.func227.trans (congrArg some (by kernel_rfl))
 f284:=Tryz.func228.trans (congrArg some (by kernel_rfl))
 f285:=Tryz.func229.trans (congrArg some (by kernel_rfl))
 f286:=Tryz.func230.trans (congrArg some (by kernel_rfl))
 f317:=Tryz.func247.trans (congrArg some (by kernel_rfl))
 f318:=Tryz.func248.trans (congrArg some (by kernel_rfl))
 f319:=Tryz.func249.trans (congrArg some (by kernel_rfl))
 f320:=Tryz.func250.trans (congrArg some (by kernel_rfl))
 f337:=Tryz.func258.trans (congrArg some (by kernel_rfl))
 f338:=Tryz.func259.trans (congrArg some (by kernel_rfl))
 t0:=Tryz.underlying0
 a0:=Tryz.isAgg0
 z0:=Tryz.sizeOf0
 v0:=Tryz.zeroValue0
 t2:=Tryz.underlying2
 a2:=Tryz.isAgg2
 z2:=Tryz.sizeOf2
 v2:=Tryz.zeroValue2
 t3:=Tryz.underlying3
 a3:=Tryz.isAgg3
 z3:=Tryz.sizeOf3
 v3:=Tryz.zeroValue3
 t4:=Tryz.underlying4
 a4:=Tryz.isAgg4
 z4:=Tryz.sizeOf4
 v4:=Tryz.zeroValue4
 t5:=Tryz.underlying5
 a5:=Tryz.isAgg5
 z5:=Tryz.sizeOf5
 v5:=Tryz.zeroValue5
 t9:=Tryz.underlying9
 a9:=Tryz.isAgg9
 z9:=Tryz.sizeOf9
 v9:=Tryz.zeroValue9
 t20:=Tryz.underlying20
 a20:=Tryz.isAgg20
 z20:=Tryz.sizeOf20
 v20:=Tryz.zeroValue20
 t37:=Tryz.underlying35
 a37:=Tryz.isAgg35
 z37:=Tryz.sizeOf35
 v37:=Tryz.zeroValue35
 t46:=Tryz.underlying184
 a46:=Tryz.isAgg184
 z46:=Tryz.sizeOf184
 v46:=Tryz.zeroValue184
 t51:=Tryz.underlying215
 a51:=Tryz.isAgg215
 z51:=Tryz.sizeOf215
 v51:=Tryz.zeroValue215
 t53:=Tryz.underlying154
 a53:=Tryz.isAgg154
 z53:=Tryz.sizeOf154
 v53:=Tryz.zeroValue154
 t171:=Tryz.underlying221
 a171:=Tryz.isAgg221
 z171:=Tryz.sizeOf221
 v171:=Tryz.zeroValue221
 t173:=Tryz.underlying223
 a173:=Tryz.isAgg223
 z173:=Tryz.sizeOf223
 v173:=Tryz.zeroValue223
 t212:=Tryz.underlying245
 a212:=Tryz.isAgg245
 z212:=Tryz.sizeOf245
 v212:=Tryz.zeroValue245
 t213:=Tryz.underlying246
 a213:=Tryz.isAgg246
 z213:=Tryz.sizeOf246
 t232:=Tryz.underlying258
 a232:=Tryz.isAgg258
 z232:=Tryz.sizeOf258
 v232:=Tryz.zeroValue258
 t233:=Tryz.underlying259
 a233:=Tryz.isAgg259
 z233:=Tryz.sizeOf259
 v233:=Tryz.zeroValue259
 g17:=by kernel_rfl
 g18:=by kernel_rfl
 g19:=by kernel_rfl
 i0:=by kernel_rfl
 i2:=by kernel_rfl
 i3:=by kernel_rfl
 i4:=by kernel_rfl
 i5:=by kernel_rfl
 i9:=by kernel_rfl
 i20:=by kernel_rfl
 i37:=by kernel_rfl
 i46:=by kernel_rfl
 i51:=by kernel_rfl
 i53:=by kernel_rfl
 i171:=by kernel_rfl
 i173:=by kernel_rfl
 i212:=by kernel_rfl
 i232:=by kernel_rfl
 i233:=by kernel_rfl
 m17:=by kernel_rfl
 m18:=by kernel_rfl
 m19:=by kernel_rfl }
theorem KGs:Lays.n138 Go.Proofs.Tryz.prog KD2:={
 mixed:=by kernel_rfl
 f138:=Tryz.func55.trans (congrArg some (by kernel_rfl))
 f143:=Tryz.func107.trans (congrArg some (by kernel_rfl))
 f195:=Tryz.func105.trans (congrArg some (by kernel_rfl))
 f217:=Tryz.func194.trans (congrArg some (by kernel_rfl))
 f218:=Tryz.func106.trans (congrArg some (by kernel_rfl))
 f219:=Tryz.func155.trans (congrArg some (by kernel_rfl))
 f224:=Tryz.func196.trans (congrArg some (by kernel_rfl))
 f225:=Tryz.func195.trans (congrArg some (by kernel_rfl))
 f266:=Tryz.func225.trans (congrArg some (by kernel_rfl))
 f267:=Tryz.func197.trans (congrArg some (by kernel_rfl))
 f314:=Tryz.func226.trans (congrArg some (by kernel_rfl))
 t0:=Tryz.underlying0
 a0:=Tryz.isAgg0
 z0:=Tryz.sizeOf0
 v0:=Tryz.zeroValue0
 t3:=Tryz.underlying3
 a3:=Tryz.isAgg3
 z3:=Tryz.sizeOf3
 v3:=Tryz.zeroValue3
 t4:=Tryz.underlying4
 a4:=Tryz.isAgg4
 z4:=Tryz.sizeOf4
 v4:=Tryz.zeroValue4
 t5:=Tryz.underlying5
 a5:=Tryz.isAgg5
 z5:=Tryz.sizeOf5
 v5:=Tryz.zeroValue5
 t9:=Tryz.underlying9
 a9:=Tryz.isAgg9
 z9:=Tryz.sizeOf9
 v9:=Tryz.zeroValue9
 t46:=Tryz.underlying184
 a46:=Tryz.isAgg184
 z46:=Tryz.sizeOf184
 v46:=Tryz.zeroValue184
 t51:=Tryz.underlying215
 a51:=Tryz.isAgg215
 z51:=Tryz.sizeOf215
 v51:=Tryz.zeroValue215
 t146:=Tryz.underlying218
 a146:=Tryz.isAgg218
 z146:=Tryz.sizeOf218
 v146:=Tryz.zeroValue218
 g1:=by kernel_rfl }
def Z1 (x0 x1:ByteArray):M Int:=M.pure (Lib.compareBytes x0.data.toList x1.data.toList)
theorem Yo (x0 x1:ByteArray):Ki Go.Proofs.Tryz.prog 127 #[.string x0,.string x1] (fun (r:Int)=>.int .i64 r) (Z1 x0 x1):=by
 intro w Q H
 refine (Any.bytealg_CompareString KGp x0 x1 w).mono ?_
 rintro e w' ⟨rfl,rfl⟩
 exact ⟨_,rfl,H,Rest.refl _⟩
def Ue (x0 x1:ByteArray):M Int :=
 ⟨fun h Q=>∃ c:UInt8,x1=⟨#[c]⟩∧Q (Lib.indexByte x0.data.toList c) h,fun hq ⟨c,h1,h2⟩=>⟨c,h1,hq _ _ h2⟩⟩
theorem GS (x0 x1:ByteArray):Ki Go.Proofs.Tryz.prog 155 #[.string x0,.string x1] (fun (r:Int)=>.int .i64 r) (Ue x0 x1):=by
 intro w Q ⟨c,h1,h2⟩
 subst h1
 refine (Any.stringslite_Index_one KGq x0 c w).mono ?_
 rintro e w' ⟨rfl,rfl⟩
 exact ⟨_,rfl,h2,Rest.refl _⟩
def Z2 (x0:ByteArray) (x1:Int):M Int:=M.pure (Lib.indexByte x0.data.toList x1.toNat.toUInt8)
theorem Yp (x0:ByteArray) (x1:Int):Ki Go.Proofs.Tryz.prog 194 #[.string x0,.int .u8 x1] (fun (r:Int)=>.int .i64 r) (Z2 x0 x1):=by
 intro w Q H
 refine (Any.stringslite_IndexByte KGr x0 x1 w).mono ?_
 rintro e w' ⟨rfl,rfl⟩
 exact ⟨_,rfl,H,Rest.refl _⟩
def Ux (x0:ByteArray) (x1:Int) (x2:Int):M (Int × Value) :=
 ⟨fun h Q=>x1=10∧x2=64∧x0.size≤9223372036854775806∧∀ h':Heap,h.size≤h'.size→(∀ i,i < h.size→h'[i]?=h[i]?)→(match Lib.parseIntB 64 x0.data.toList with | .ok v=>Q (v,.nilIface) h' | .range=>Q (Lib.intSat 64 x0.data.toList,.iface 225 (.int .i64 1)) h' | _=>Q (0,.iface 225 (.int .i64 2)) h'),
  fun hq ⟨h0,h1,h2,h3⟩=>⟨h0,h1,h2,fun h' a b=>by have h5:=h3 h' a b; revert h5; cases Lib.parseIntB 64 x0.data.toList <;> exact fun h5=>hq _ _ h5⟩⟩
theorem Gt (x0:ByteArray) (x1:Int) (x2:Int):Ki Go.Proofs.Tryz.prog 201 #[.string x0,.int .i64 x1,.int .i64 x2] (fun (r:Int × Value)=>.tuple #[.int .i64 r.1,r.2]) (Ux x0 x1 x2):=by
 intro w Q ⟨h0,h1,h2,h4⟩
 subst h0
 subst h1
 refine (Any.internal_strconv_ParseInt_10_all64 KFu x0 h2 w).mono ?_
 rintro e w' ⟨rfl,hw⟩
 have hb:w.heap.size≤w'.heap.size∧(∀ i,i < w.heap.size→w'.heap[i]?=w.heap[i]?)∧Rest w w':=by
  rcases hw with rfl | ⟨t,rfl⟩
  ·exact ⟨Nat.le_refl _,fun _ _=>rfl,Rest.refl _⟩
  ·have hb:=Lib.bytesWorld_below w (5) t
   exact ⟨hb.size,hb.block,⟨hb.os,hb.output,hb.tape,Nat.le_succ w.drawn⟩⟩
 obtain ⟨b1,b2,b3⟩:=hb
 have h5:=h4 _ b1 b2
 cases hp:Lib.parseIntB 64 x0.data.toList <;> (rw [hp] at h5; exact ⟨_,rfl,h5,b3⟩)
def Wz (x0:ByteArray) (x1:ByteArray):M (Option Addr):=M.fail
theorem zp (x0:ByteArray) (x1:ByteArray):Ki Go.Proofs.Tryz.prog 232 #[.string x0,.string x1] (fun (r:Option Addr)=>.pointer r) (Wz x0 x1):=fun w Q H=>H.elim
def Y2 (x0:ByteArray) (x1:ByteArray) (x2:Int):M (Option Addr):=M.fail
theorem KBd (x0:ByteArray) (x1:ByteArray) (x2:Int):Ki Go.Proofs.Tryz.prog 234 #[.string x0,.string x1,.int .i64 x2] (fun (r:Option Addr)=>.pointer r) (Y2 x0 x1 x2):=fun w Q H=>H.elim
def Wc (x0:ByteArray) (x1:ByteArray) (x2:Int):M (Option Addr):=M.fail
theorem zT (x0:ByteArray) (x1:ByteArray) (x2:Int):Ki Go.Proofs.Tryz.prog 235 #[.string x0,.string x1,.int .i64 x2] (fun (r:Option Addr)=>.pointer r) (Wc x0 x1 x2):=fun w Q H=>H.elim
theorem KLj:Builder.X72 Go.Proofs.Tryz.prog KD2:={ sizeBuilder:=by kernel_rfl,liesBuilder:=by kernel_rfl }
def ZE (x0:Option Addr):M Unit :=
 ⟨fun h Q=>∃ b p v,x0=some ⟨b,0,none⟩∧h[b]?=some (.cells #[p,v] 109 (0,0))∧((p=.pointer (some ⟨b,0,none⟩)∧Q () h)∨(p=.pointer none∧Q () (hset h ⟨b,0,none⟩ (.pointer (some ⟨b,0,none⟩))))),
  fun hq ⟨b,p,v,h1,h2,h3⟩=>⟨b,p,v,h1,h2,h3.imp (fun ⟨a,c⟩=>⟨a,hq _ _ c⟩) (fun ⟨a,c⟩=>⟨a,hq _ _ c⟩)⟩⟩
theorem UT (x0:Option Addr):Ki Go.Proofs.Tryz.prog 150 #[.pointer x0] (fun (r:Unit)=>.tuple #[]) (ZE x0):=by
 intro w Q ⟨b,p,v,h1,h2,h3⟩
 subst h1
 have hc:w.cell? ⟨b,0,none⟩=some p:=by rw [KDw]; simp [KO,h2]
 rcases h3 with ⟨rfl,hq⟩ | ⟨rfl,hq⟩
 ·refine (Any.Builder_copyCheck_used KCj KLj b w hc).mono ?_
  rintro e w' ⟨rfl,rfl⟩
  exact ⟨(),rfl,hq,Rest.refl _⟩
 ·refine (Any.Builder_copyCheck_fresh KCj KLj b w hc (by simp [World.shape?,h2]; rfl) (by simp [World.frozen?,h2])).mono ?_
  rintro e w' ⟨rfl,rfl⟩
  exact ⟨(),rfl,hq,⟨rfl,rfl,rfl,Nat.le_refl _⟩⟩
def Gu (h:Heap):Prop:=∃ fz ty,h[3]?=some (.cells (Lib.pow10Tab.map fun z=>Value.int .u64 z).toArray ty fz)
def KEw (x0:Int):M ByteArray :=
 ⟨fun h Q=>-9223372036854775808≤x0∧x0≤9223372036854775807∧Gu h∧∀ h':Heap,h.size≤h'.size→(∀ i,i < h.size→h'[i]?=h[i]?)→Q ⟨(Lib.itoa x0).toArray⟩ h',
  fun hq ⟨h2,h3,h4,h5⟩=>⟨h2,h3,h4,fun h' a b=>hq _ _ (h5 h' a b)⟩⟩
theorem KDP (x0:Int):Ki Go.Proofs.Tryz.prog 198 #[.int .i64 x0,.int .i64 10] (fun (r:ByteArray)=>.string r) (KEw x0):=by
 intro w Q ⟨h2,h3,⟨fz,ty,h4⟩,h5⟩
 refine (Any.internal_strconv_FormatInt_10 KFv x0 h2 h3 w ?_).mono ?_
 ·show w.var? Go.Proofs.Tryz.prog _=_
  have hg:Go.Proofs.Tryz.prog.globalNamed "internal/strconv.uint64pow10"=some 3:=by kernel_rfl
  simp only [World.var?,hg,Option.bind_some,h4]
 ·rintro e w' ⟨rfl,k,os,rfl⟩
  refine ⟨_,rfl,h5 _ ?_ ?_,⟨rfl,rfl,rfl,Nat.le_add_right _ _⟩⟩
  ·show w.heap.size≤(w.heap++os).size
   simp
  ·intro i hi
   show (w.heap++os)[i]?=_
   rw [Array.getElem?_append_left hi]
def KAx (h:Heap):Prop:=∃ cs ty fz,h[7]?=some (.cells cs ty fz)∧cs[15]?=some (.int .u8 4)
def qy (x0 x1:ByteArray):M Int :=
 ⟨fun h Q=>∃ c:UInt8,x1=⟨#[c]⟩∧Q (Lib.countByte x0.data.toList c) h,fun hq ⟨c,h1,h2⟩=>⟨c,h1,hq _ _ h2⟩⟩
theorem KEx (x0 x1:ByteArray):Ki Go.Proofs.Tryz.prog 55 #[.string x0,.string x1] (fun (r:Int)=>.int .i64 r) (qy x0 x1):=by
 intro w Q ⟨c,h1,h2⟩
 subst h1
 refine (Any.strings_Count_one KGs x0 c w).mono ?_
 rintro e w' ⟨rfl,rfl⟩
 exact ⟨_,rfl,h2,Rest.refl _⟩
end Gx
namespace Gx
open Go
set_option linter.unusedVariables false
set_option maxRecDepth 100000
def JE (x0:Int) (x1:Int):M (ByteArray):=do
 let Xx3←WP Go.Proofs.Tryz.prog J8 #[.int .i64 x0,.int .i64 x1] (fun r:ByteArray=>.string r)
 M.pure Xx3
theorem KBe (x0:Int) (x1:Int):Ki Go.Proofs.Tryz.prog 156 #[.int .i64 x0,.int .i64 x1] (fun (r:ByteArray)=>.string r) (JE x0 x1) :=
 KL [mkC J8 Xp [.I .i64,.I .i64] [.S] (fun (t:Int × Int)=>WP Go.Proofs.Tryz.prog J8 #[.int .i64 t.1,.int .i64 t.2] (fun r:ByteArray=>.string r)) (fun (t:Int × Int)=>JN)] [] [.S] [(0,.I .i64 x0),(1,.I .i64 x1)] .o Go.Proofs.Tryz.func156 rfl rfl ⟨rfl,rfl,trivial⟩ rfl (by kernel_rfl) (by kernel_rfl)
noncomputable def Gv:CalleeS Go.Proofs.Tryz.prog:=mkC KAf KAu [.I .i64,.I .i64] [.S] (fun (t:Int × Int)=>JE t.1 t.2) (fun (t:Int × Int)=>KBe t.1 t.2)
def Nv (x0:Int):M (ByteArray):=do
 let Xx3←JE x0 10
 M.pure Xx3
theorem KKX (x0:Int):Ki Go.Proofs.Tryz.prog 109 #[.int .i64 x0] (fun (r:ByteArray)=>.string r) (Nv x0) :=
 KL [Gv] [] [.S] [(0,.I .i64 x0)] .o Go.Proofs.Tryz.func109 rfl rfl ⟨rfl,trivial⟩ rfl (by kernel_rfl) (by kernel_rfl)
noncomputable def KGE:CalleeS Go.Proofs.Tryz.prog:=mkC KIq KIt [.I .i64] [.S] (fun (t:Int)=>Nv t) (fun (t:Int)=>KKX t)
def KW (x0:Option Addr) (x1:ByteArray):M (Int × Value):=do
 let Xx3←ZE x0
 let Xx5←nilP x0
 let Xx6←ldL ((Xx5).add 1)
 let Xx7←apS KY Xx6 x1
 let Xx8←nilP x0
 stV ((Xx8).add 1) ((Xx7:Sl).v)
 M.pure ((x1.size:Int),Value.nilIface)
theorem Xz (x0:Option Addr) (x1:ByteArray):Ki Go.Proofs.Tryz.prog 95 #[.pointer x0,.string x1] (fun (r:Int × Value)=>.tuple #[.int .i64 r.1,r.2]) (KW x0 x1) :=
 KL [mkC UL UM [.P] [] (fun (t:Option Addr)=>ZE t) (fun (t:Option Addr)=>UT t)] [0,6,8,9] [.I .i64,.V] [(0,.P x0),(1,.S x1)] .o Go.Proofs.Tryz.func95 rfl rfl ⟨rfl,rfl,trivial⟩ rfl (by kernel_rfl) (by kernel_rfl)
noncomputable def Ze:CalleeS Go.Proofs.Tryz.prog:=mkC XR XT [.P,.S] [.I .i64,.V] (fun (t:Option Addr × ByteArray)=>KW t.1 t.2) (fun (t:Option Addr × ByteArray)=>Xz t.1 t.2)
def Kj (x0:Option Addr) (x1:Int):M (Value):=do
 let Xx3←ZE x0
 let Xx5←nilP x0
 let Xx6←ldL ((Xx5).add 1)
 let Xx7←bdL KY 1 #[.int .u8 x1]
 let Xx8←apL KY 1 1 (#[.int .u8 0]:Array Value) Xx6 Xx7
 let Xx9←nilP x0
 stV ((Xx9).add 1) ((Xx8:Sl).v)
 M.pure Value.nilIface
theorem Gy (x0:Option Addr) (x1:Int):Ki Go.Proofs.Tryz.prog 96 #[.pointer x0,.int .u8 x1] (fun (r:Value)=>r) (Kj x0 x1) :=
 KL [mkC UL UM [.P] [] (fun (t:Option Addr)=>ZE t) (fun (t:Option Addr)=>UT t)] [0,5,7,8] [.V] [(0,.P x0),(1,.I .u8 x1)] .o Go.Proofs.Tryz.func96 rfl rfl ⟨rfl,rfl,trivial⟩ rfl (by kernel_rfl) (by kernel_rfl)
noncomputable def UU:CalleeS Go.Proofs.Tryz.prog:=mkC GK GR [.P,.I .u8] [.V] (fun (t:Option Addr × Int)=>Kj t.1 t.2) (fun (t:Option Addr × Int)=>Gy t.1 t.2)
def ZG (x0:Option Addr):M (ByteArray):=do
 let Xx3←nilP x0
 let Xx4←nilP x0
 let Xx5←ldL ((Xx3).add 1)
 let Xx6←ldL ((Xx4).add 1)
 let Xx7←uSD Xx5
 let Xx8←uStr KY Xx7 (Xx6.len:Int)
 M.pure Xx8
theorem YG (x0:Option Addr):Ki Go.Proofs.Tryz.prog 97 #[.pointer x0] (fun (r:ByteArray)=>.string r) (ZG x0) :=
 KL [] [0,3,7,8] [.S] [(0,.P x0)] (.q .o (.q (.r [0,1,2,4,8,0,32,64,128,256,528,2047] [0,1,2,4,8,0,32,64,128,256,528,1024] [0,1,3,7,15,0,32,96,224,480,1023,2047] (.pu 0 (.pu 1 (.pu 2 (.pu 5 (.pu 6 (.pu 7 (.pu 3 (.pu 8 (.pu 9 (.st [10,11] (.on 4 (.on 10 (.pu 11 (.nx .dn))))))))))))))) .o)) Go.Proofs.Tryz.func97 rfl rfl ⟨rfl,trivial⟩ rfl (by kernel_rfl) (by kernel_rfl)
noncomputable def J5:CalleeS Go.Proofs.Tryz.prog:=mkC N4 Wm [.P] [.S] (fun (t:Option Addr)=>ZG t) (fun (t:Option Addr)=>YG t)
def Vj (self1:(Int)→M (ByteArray)) (C19:Int):M (ByteArray):=do
 self1 (IntKind.wrap .i64 (C19+1))
def N8 (C10:Addr) (C11:Sl) (C12:Int) (self1:(Int)→M (ByteArray)):(Int)→M (ByteArray):=fun s=>match s with
 | Xx9=>do
  M.ite (decide (Xx9 < C12)) (do
   let Xx21←ixL C11 Xx9 1
   let Xx22←ldI .u8 Xx21
   let Xx24←M.ite (decide (Xx22 < 32)) (do
    M.pure true
    ) (do
    M.pure (decide (Xx22 > 126))
    )
   M.ite Xx24 (do
    let Xx26←KW (some C10) (⟨#[92,120]⟩:ByteArray)
    let Xx28←JE (IntKind.wrap .i64 (iShr .u8 Xx22 4)) 16
    let Xx29←KW (some C10) Xx28
    let Xx30←JE (IntKind.wrap .i64 (iAnd .u8 Xx22 15)) 16
    let Xx31←KW (some C10) Xx30
    Vj self1 Xx9
    ) (do
    let Xx33←M.ite (Xx22 == 39) (do
     M.pure true
     ) (do
     M.pure (Xx22 == 92)
     )
    M.ite Xx33 (do
     let Xx35←Kj (some C10) 92
     let Xx36←Kj (some C10) Xx22
     Vj self1 Xx9
     ) (do
     let Xx37←Kj (some C10) Xx22
     Vj self1 Xx9
     )
    )
   ) (do
   let Xx39←Kj (some C10) 39
   let Xx41←ZG (some C10)
   M.pure Xx41
   )
def Gz (x0:ByteArray):M (ByteArray):=do
 let Xx3←mkB ZZ (#[.pointer none,.slice none 0 0]:Array Value)
 let Xx5←Kj (some Xx3) 39
 let Xx8←s2b KY x0
 M.loop (N8 Xx3 Xx8 (Xx8.len:Int)) 0
theorem KGt (x0:ByteArray):Ki Go.Proofs.Tryz.prog 133 #[.string x0] (fun (r:ByteArray)=>.string r) (Gz x0) :=
 KL [Gv,Ze,UU,J5] [] [.S] [(0,.S x0)] (.q .o (.q .o (.q .o (.q (.q .o (.b (.l [(3,.A),(8,.L),(9,.I .i64)] [(10,.I .i64)] (fun (t:Addr × Sl × Int)=>N8 t.1 t.2.1 t.2.2) (fun self1=>.q .o (.q .o (.q .o (.j [(3,.A),(8,.L),(9,.I .i64),(10,.I .i64)] (fun (t:Addr × Sl × Int × Int)=>Vj self1 t.2.2.2) .o))))))) .o)))) Go.Proofs.Tryz.func133 rfl rfl ⟨rfl,trivial⟩ rfl (by kernel_rfl) (by kernel_rfl)
noncomputable def KGu:CalleeS Go.Proofs.Tryz.prog:=mkC KFl KFt [.S] [.S] (fun (t:ByteArray)=>Gz t) (fun (t:ByteArray)=>KGt t)
def U3 (x0:Option Addr) (x1:Int):M (Unit):=do
 let Xx2←nilP x0
 let Xx3←nilP x0
 let Xx4←ldL ((Xx2).add 1)
 let Xx5←ldL ((Xx3).add 1)
 let Xx6←mnz KY (IntKind.wrap .i64 ((IntKind.wrap .i64 (2 * (Xx4.cap:Int)))+x1))
 chk (fun h:Heap=>(KO h ((Xx2).add 1)=some ((Xx4:Sl).v))∧(KO h ((Xx3).add 1)=some ((Xx5:Sl).v)))
 let Xx7←slL Xx6 0 (Xx5.len:Int) 1
 let Xx9←nilP x0
 let Xx10←ldL ((Xx9).add 1)
 let Xx11←cpL 1 Xx7 Xx10
 let Xx12←nilP x0
 stV ((Xx12).add 1) ((Xx7:Sl).v)
 M.pure ()
theorem zU (x0:Option Addr) (x1:Int):Ki Go.Proofs.Tryz.prog 219 #[.pointer x0,.int .i64 x1] (fun (r:Unit)=>.tuple #[]) (U3 x0 x1) :=
 KL [KRc XP #[3] 35 5 Go.Proofs.Tryz.func243 (by kernel_rfl) (by kernel_rfl) (by kernel_rfl) (by kernel_rfl) un35] [0,5,14,21,26] [] [(0,.P x0),(1,.I .i64 x1)] (.q (.r [0,1,2,4,8,16,0,96,128,0,512,1024,2048,4096,8448,32767] [0,1,2,4,8,16,0,96,128,0,512,1024,2048,4096,8448,16384] [0,1,3,7,15,31,0,127,255,0,512,1536,3584,7680,16383,32767] (.pu 0 (.pu 1 (.pu 2 (.pu 6 (.pu 9 (.pu 10 (.pu 11 (.pu 3 (.pu 4 (.pu 5 (.pu 7 (.pu 12 (.pu 13 (.st [14,15] (.on 8 (.pu 14 (.pu 15 (.nx .dn))))))))))))))))))) .o) Go.Proofs.Tryz.func219 rfl rfl ⟨rfl,rfl,trivial⟩ rfl (by kernel_rfl) (by kernel_rfl)
noncomputable def zV:CalleeS Go.Proofs.Tryz.prog:=mkC qp qv [.P,.I .i64] [] (fun (t:Option Addr × Int)=>U3 t.1 t.2) (fun (t:Option Addr × Int)=>zU t.1 t.2)
def UE (x0:Option Addr) (x1:Int):M (Unit):=do
 let Xx2←ZE x0
 M.ite (decide (x1 < 0)) (do
  M.fail
  ) (do
  let Xx6←nilP x0
  let Xx7←nilP x0
  let Xx8←ldL ((Xx6).add 1)
  let Xx9←ldL ((Xx7).add 1)
  M.ite (decide ((IntKind.wrap .i64 ((Xx8.cap:Int) - (Xx9.len:Int))) < x1)) (do
   let Xx10←U3 x0 x1
   M.pure ()
   ) (do
   M.pure ()
   )
  )
theorem zW (x0:Option Addr) (x1:Int):Ki Go.Proofs.Tryz.prog 177 #[.pointer x0,.int .i64 x1] (fun (r:Unit)=>.tuple #[]) (UE x0 x1) :=
 KL [mkC UL UM [.P] [] (fun (t:Option Addr)=>ZE t) (fun (t:Option Addr)=>UT t),zV] [0,4,9,14,22] [] [(0,.P x0),(1,.I .i64 x1)] (.q .o (.q .o (.q (.r [0,1,2,4,8,0,32,64,128,256,528,0,3072] [0,1,2,4,8,0,32,64,128,256,528,0,3072] [0,1,3,7,15,0,32,96,224,480,1023,0,4095] (.pu 0 (.pu 1 (.pu 2 (.pu 5 (.pu 6 (.pu 7 (.pu 11 (.pu 3 (.pu 4 (.pu 8 (.pu 9 (.pu 10 (.pu 12 (.st [10,12] .dn))))))))))))))) .o))) Go.Proofs.Tryz.func177 rfl rfl ⟨rfl,rfl,trivial⟩ rfl (by kernel_rfl) (by kernel_rfl)
noncomputable def zX:CalleeS Go.Proofs.Tryz.prog:=mkC qo qu [.P,.I .i64] [] (fun (t:Option Addr × Int)=>UE t.1 t.2) (fun (t:Option Addr × Int)=>zW t.1 t.2)
def G0 (C43:ByteArray) (C44:Addr) (C45:Sl) (C46:Int) (self2:(Int)→M (ByteArray)):(Int)→M (ByteArray):=fun s=>match s with
 | Xx42=>do
  M.ite (decide (Xx42 < C46)) (do
   let Xx52←ixL C45 Xx42 1
   let Xx53←ldS Xx52
   let Xx55←KW (some C44) C43
   let Xx56←KW (some C44) Xx53
   self2 (IntKind.wrap .i64 (Xx42+1))
   ) (do
   let Xx58←ZG (some C44)
   M.pure Xx58
   )
def G8 (C18:Sl) (C19:ByteArray) (C20:Sl) (C21:Int) (self1:(Int × Int)→M (ByteArray)):(Int × Int)→M (ByteArray):=fun s=>match s with
 | (Xx16,Xx17)=>do
  M.ite (decide (Xx17 < C21)) (do
   let Xx27←ixL C20 Xx17 1
   let Xx28←ldS Xx27
   M.ite (decide ((Xx28.size:Int) > (IntKind.wrap .i64 (9223372036854775807 - Xx16)))) (do
    M.fail
    ) (do
    self1 (IntKind.wrap .i64 (Xx16+(Xx28.size:Int)),IntKind.wrap .i64 (Xx17+1))
    )
   ) (do
   let Xx32←mkB ZZ (#[.pointer none,.slice none 0 0]:Array Value)
   let Xx34←UE (some Xx32) Xx16
   let Xx36←ixL C18 0 1
   let Xx37←ldS Xx36
   let Xx38←KW (some Xx32) Xx37
   let Xx41←slL C18 1 C18.len 1
   M.loop (G0 C19 Xx32 Xx41 (Xx41.len:Int)) 0
   )
def YU (C12:Sl) (C13:ByteArray) (Xx11:Int):M (ByteArray):=do
 M.loop (G8 C12 C13 C12 (C12.len:Int)) (Xx11,0)
def XU (x0:Sl) (x1:ByteArray):M (ByteArray):=do
 M.ite ((x0.len:Int) == 0) (do
  M.pure ByteArray.empty
  ) (do
  M.ite ((x0.len:Int) == 1) (do
   let Xx8←ixL x0 0 1
   let Xx9←ldS Xx8
   M.pure Xx9
   ) (do
   M.ite (decide ((x1.size:Int) > 0)) (do
    let Xx62←pQuo .i64 9223372036854775807 (IntKind.wrap .i64 ((x0.len:Int) - 1))
    M.ite (decide ((x1.size:Int) ≥ Xx62)) (do
     M.fail
     ) (do
     YU x0 x1 (IntKind.wrap .i64 (0+(IntKind.wrap .i64 ((x1.size:Int) * (IntKind.wrap .i64 ((x0.len:Int) - 1))))))
     )
    ) (do
    YU x0 x1 0
    )
   )
  )
theorem KFw (x0:Sl) (x1:ByteArray):Ki Go.Proofs.Tryz.prog 134 #[(x0:Sl).v,.string x1] (fun (r:ByteArray)=>.string r) (XU x0 x1) :=
 KL [zX,Ze,J5] [] [.S] [(0,.L x0),(1,.S x1)] (.q .o (.q .o (.q .o (.q .o (.j [(0,.L),(1,.S),(5,.I .i64)] (fun (t:Sl × ByteArray × Int)=>YU t.1 t.2.1 t.2.2) (.q (.q .o (.b (.l [(0,.L),(1,.S),(39,.L),(40,.I .i64)] [(5,.I .i64),(41,.I .i64)] (fun (t:Sl × ByteArray × Sl × Int)=>G8 t.1 t.2.1 t.2.2.1 t.2.2.2) (fun _=>.o)))) (.q .o (.q .o (.q .o (.q (.q .o (.b (.l [(1,.S),(8,.A),(63,.L),(64,.I .i64)] [(65,.I .i64)] (fun (t:ByteArray × Addr × Sl × Int)=>G0 t.1 t.2.1 t.2.2.1 t.2.2.2) (fun _=>.o)))) .o)))))))))) Go.Proofs.Tryz.func134 rfl rfl ⟨rfl,rfl,trivial⟩ rfl (by kernel_rfl) (by kernel_rfl)
noncomputable def KFx:CalleeS Go.Proofs.Tryz.prog:=mkC KEr KEv [.L,.S] [.S] (fun (t:Sl × ByteArray)=>XU t.1 t.2) (fun (t:Sl × ByteArray)=>KFw t.1 t.2)
def YV (self1:(Sl × Int)→M (ByteArray)) (C56:Int) (Xx51:Sl):M (ByteArray):=do
 self1 (Xx51,IntKind.wrap .i64 (C56+1))
def q6 (C44:Int) (C45:Addr) (C46:Sl) (C47:Int) (self1:(Sl × Int)→M (ByteArray)):(Sl × Int)→M (ByteArray):=fun s=>match s with
 | (Xx42,Xx43)=>do
  M.ite (decide (Xx43 < C47)) (do
   let Xx58←ixL C46 Xx43 4
   let Xx59←ldG 4 Xx58
   let Xx60←mkB KB (#[.int .i64 0,.int .i64 0,.string ByteArray.empty,.slice none 0 0]:Array Value)
   M.need (Xx59.size=4)
   stG Xx60 Xx59
   let Xx63←ldG 4 Xx60
   let Xx64←WP Go.Proofs.Tryz.prog GN #[.agg Xx63,.int .i64 (IntKind.wrap .i64 (C44+1))] (fun r:ByteArray=>.string r)
   let Xx66←ldI .i64 ((C45).add 0)
   let Xx67←M.ite (Xx66 == 5) (do
    M.pure ((Int.tmod Xx43 2) == 1)
    ) (do
    M.pure false
    )
   M.ite Xx67 (do
    let Xx68←ixL Xx42 (IntKind.wrap .i64 ((Xx42.len:Int) - 1)) 1
    let Xx69←ldS Xx68
    let Xx70←sCat (⟨#[58,32]⟩:ByteArray) Xx64
    let Xx71←sCat Xx69 Xx70
    let Xx72←ixL Xx42 (IntKind.wrap .i64 ((Xx42.len:Int) - 1)) 1
    stV Xx72 (.string Xx71)
    YV self1 Xx43 Xx42
    ) (do
    let Xx74←bdL JD 1 #[.string Xx64]
    let Xx75←apL JD 1 16 (#[.string ByteArray.empty]:Array Value) Xx42 Xx74
    YV self1 Xx43 Xx75
    )
   ) (do
   let Xx77←XU Xx42 (⟨#[44,32]⟩:ByteArray)
   let Xx80←ldI .i64 ((C45).add 0)
   M.ite (Xx80 == 5) (do
    let Xx82←sCat (⟨#[123]⟩:ByteArray) Xx77
    let Xx83←sCat Xx82 (⟨#[125]⟩:ByteArray)
    M.pure Xx83
    ) (do
    let Xx85←sCat (⟨#[91]⟩:ByteArray) Xx77
    let Xx86←sCat Xx85 (⟨#[93]⟩:ByteArray)
    M.pure Xx86
    )
   )
def YW (C36:Int) (C37:Addr) (Xx35:Bool):M (ByteArray):=do
 M.ite Xx35 (do
  let Xx41←ldL ((C37).add 3)
  M.loop (q6 C36 C37 Xx41 (Xx41.len:Int)) (Sl.nil,0)
  ) (do
  M.pure (⟨#[63]⟩:ByteArray)
  )
def Gh (x0:Array Value) (x1:Int):M (ByteArray):=do
 let Xx2←mkB KB x0
 M.ite (decide (x1 > 8)) (do
  M.pure (⟨#[63]⟩:ByteArray)
  ) (do
  let Xx8←ldI .i64 ((Xx2).add 0)
  M.ite (Xx8 == 1) (do
   let Xx11←ldI .i64 ((Xx2).add 1)
   let Xx12←Nv Xx11
   M.pure Xx12
   ) (do
   M.ite (Xx8 == 2) (do
    let Xx15←ldS ((Xx2).add 2)
    let Xx16←Gz Xx15
    M.pure Xx16
    ) (do
    M.ite (Xx8 == 3) (do
     let Xx20←ldI .i64 ((Xx2).add 1)
     M.ite (Xx20 == 1) (do
      M.pure (⟨#[116,114,117,101]⟩:ByteArray)
      ) (do
      M.pure (⟨#[102,97,108,115,101]⟩:ByteArray)
      )
     ) (do
     M.ite (Xx8 == 6) (do
      let Xx25←ldI .i64 ((Xx2).add 1)
      let Xx26←Nv Xx25
      let Xx27←sCat (⟨#[118,91]⟩:ByteArray) Xx26
      let Xx28←sCat Xx27 (⟨#[93]⟩:ByteArray)
      M.pure Xx28
      ) (do
      M.ite (Xx8 == 7) (do
       let Xx31←ldI .i64 ((Xx2).add 1)
       let Xx32←Nv Xx31
       let Xx33←sCat (⟨#[101,91]⟩:ByteArray) Xx32
       let Xx34←sCat Xx33 (⟨#[93]⟩:ByteArray)
       M.pure Xx34
       ) (do
       M.ite (Xx8 == 4) (do
        YW x1 Xx2 (Xx8 == 4)
        ) (do
        YW x1 Xx2 (Xx8 == 5)
        )
       )
      )
     )
    )
   )
  )
theorem KD3 (x0:Array Value) (x1:Int):Ki Go.Proofs.Tryz.prog 76 #[.agg x0,.int .i64 x1] (fun (r:ByteArray)=>.string r) (Gh x0 x1) :=
 KL [KGE,KGu,KFx,mkC GN KCi [.G,.I .i64] [.S] (fun (t:Array Value × Int)=>WP Go.Proofs.Tryz.prog GN #[.agg t.1,.int .i64 t.2] (fun r:ByteArray=>.string r)) (fun (t:Array Value × Int)=>JN)] [] [.S] [(0,.G x0),(1,.I .i64 x1)] (.q .o (.q .o (.q (.q .o (.b (.q .o (.q .o (.q .o (.q .o (.q .o (.q .o (.q .o (.q .o (.q .o (.q .o (.q .o (.j [(1,.I .i64),(2,.A),(43,.B)] (fun (t:Int × Addr × Bool)=>YW t.1 t.2.1 t.2.2) .o)))))))))))))) (.q .o (.q (.q .o (.b (.l [(1,.I .i64),(2,.A),(47,.L),(48,.I .i64)] [(5,.L),(49,.I .i64)] (fun (t:Int × Addr × Sl × Int)=>q6 t.1 t.2.1 t.2.2.1 t.2.2.2) (fun self1=>.q .o (.q .o (.q .o (.j [(1,.I .i64),(2,.A),(47,.L),(48,.I .i64),(49,.I .i64),(5,.L)] (fun (t:Int × Addr × Sl × Int × Int × Sl)=>YV self1 t.2.2.2.2.1 t.2.2.2.2.2) .o))))))) .o))))) Go.Proofs.Tryz.func76 rfl rfl ⟨rfl,rfl,trivial⟩ rfl (by kernel_rfl) (by kernel_rfl)
noncomputable def KHw:CalleeS Go.Proofs.Tryz.prog:=mkC GN KCi [.G,.I .i64] [.S] (fun (t:Array Value × Int)=>Gh t.1 t.2) (fun (t:Array Value × Int)=>KD3 t.1 t.2)
def Y3 (x0:Array Value):M (ByteArray):=do
 let Xx2←mkB KB x0
 let Xx4←ldG 4 Xx2
 let Xx5←Gh Xx4 1
 M.pure Xx5
theorem KD4 (x0:Array Value):Ki Go.Proofs.Tryz.prog 18 #[.agg x0] (fun (r:ByteArray)=>.string r) (Y3 x0) :=
 KL [KHw] [] [.S] [(0,.G x0)] .o Go.Proofs.Tryz.func18 rfl rfl ⟨rfl,trivial⟩ rfl (by kernel_rfl) (by kernel_rfl)
noncomputable def zq:CalleeS Go.Proofs.Tryz.prog:=mkC GL KCh [.G] [.S] (fun (t:Array Value)=>Y3 t) (fun (t:Array Value)=>KD4 t)
def q7 (C6:Int) (C7:Sl) (C8:Int) (self1:(Int)→M (Int)):(Int)→M (Int):=fun s=>match s with
 | Xx5=>do
  M.ite (decide (Xx5 < C8)) (do
   let Xx14←ixL C7 Xx5 1
   let Xx15←ldI .i64 Xx14
   M.ite (Xx15 != C6) (do
    M.pure Xx15
    ) (do
    self1 (IntKind.wrap .i64 (Xx5+1))
    )
   ) (do
   M.pure C6
   )
def qO (x0:Sl):M (Int):=do
 M.loop (q7 0 x0 (x0.len:Int)) 0
theorem KHx (x0:Sl):Ki Go.Proofs.Tryz.prog 69 #[(x0:Sl).v] (fun (r:Int)=>.int .i64 r) (qO x0) :=
 KL [] [] [.I .i64] [(0,.L x0)] (.q .o (.q .o (.q (.q .o (.b (.l [(3,.I .i64),(6,.L),(7,.I .i64)] [(8,.I .i64)] (fun (t:Int × Sl × Int)=>q7 t.1 t.2.1 t.2.2) (fun _=>.o)))) .o))) Go.Proofs.Tryz.func69 rfl rfl ⟨rfl,trivial⟩ rfl (by kernel_rfl) (by kernel_rfl)
noncomputable def KHy:CalleeS Go.Proofs.Tryz.prog:=mkC KGk KGm [.L] [.I .i64] (fun (t:Sl)=>qO t) (fun (t:Sl)=>KHx t)
def YX (x0:Int):M (Bool):=do
 M.pure (x0 != x0)
theorem KEy (x0:Int):Ki Go.Proofs.Tryz.prog 125 #[.int .i64 x0] (fun (r:Bool)=>.bool r) (YX x0) :=
 KL [] [] [.B] [(0,.I .i64 x0)] .o Go.Proofs.Tryz.func125 rfl rfl ⟨rfl,trivial⟩ rfl (by kernel_rfl) (by kernel_rfl)
noncomputable def KEz:CalleeS Go.Proofs.Tryz.prog:=mkC KEC KEE [.I .i64] [.B] (fun (t:Int)=>YX t) (fun (t:Int)=>KEy t)
def WF (x0:Int) (x1:Int):M (Int):=do
 let Xx3←YX x0
 let Xx5←YX x1
 M.ite Xx3 (do
  M.ite Xx5 (do
   M.pure 0
   ) (do
   M.pure (-1)
   )
  ) (do
  M.ite Xx5 (do
   M.pure 1
   ) (do
   M.ite (decide (x0 < x1)) (do
    M.pure (-1)
    ) (do
    M.ite (decide (x0 > x1)) (do
     M.pure 1
     ) (do
     M.pure 0
     )
    )
   )
  )
theorem KDQ (x0:Int) (x1:Int):Ki Go.Proofs.Tryz.prog 70 #[.int .i64 x0,.int .i64 x1] (fun (r:Int)=>.int .i64 r) (WF x0 x1) :=
 KL [KEz] [] [.I .i64] [(0,.I .i64 x0),(1,.I .i64 x1)] .o Go.Proofs.Tryz.func70 rfl rfl ⟨rfl,rfl,trivial⟩ rfl (by kernel_rfl) (by kernel_rfl)
noncomputable def KDR:CalleeS Go.Proofs.Tryz.prog:=mkC KCI KCT [.I .i64,.I .i64] [.I .i64] (fun (t:Int × Int)=>WF t.1 t.2) (fun (t:Int × Int)=>KDQ t.1 t.2)
def WI (x0:Int):M (Bool):=do
 M.pure (x0 != x0)
theorem KDS (x0:Int):Ki Go.Proofs.Tryz.prog 126 #[.int .i64 x0] (fun (r:Bool)=>.bool r) (WI x0) :=
 KL [] [] [.B] [(0,.I .i64 x0)] .o Go.Proofs.Tryz.func126 rfl rfl ⟨rfl,trivial⟩ rfl (by kernel_rfl) (by kernel_rfl)
noncomputable def KDT:CalleeS Go.Proofs.Tryz.prog:=mkC KCJ KCU [.I .i64] [.B] (fun (t:Int)=>WI t) (fun (t:Int)=>KDS t)
def VB (x0:Int) (x1:Int):M (Int):=do
 let Xx3←WI x0
 let Xx5←WI x1
 M.ite Xx3 (do
  M.ite Xx5 (do
   M.pure 0
   ) (do
   M.pure (-1)
   )
  ) (do
  M.ite Xx5 (do
   M.pure 1
   ) (do
   M.ite (decide (x0 < x1)) (do
    M.pure (-1)
    ) (do
    M.ite (decide (x0 > x1)) (do
     M.pure 1
     ) (do
     M.pure 0
     )
    )
   )
  )
theorem KBf (x0:Int) (x1:Int):Ki Go.Proofs.Tryz.prog 71 #[.int .i64 x0,.int .i64 x1] (fun (r:Int)=>.int .i64 r) (VB x0 x1) :=
 KL [KDT] [] [.I .i64] [(0,.I .i64 x0),(1,.I .i64 x1)] .o Go.Proofs.Tryz.func71 rfl rfl ⟨rfl,rfl,trivial⟩ rfl (by kernel_rfl) (by kernel_rfl)
noncomputable def KBg:CalleeS Go.Proofs.Tryz.prog:=mkC KAT KAh [.I .i64,.I .i64] [.I .i64] (fun (t:Int × Int)=>VB t.1 t.2) (fun (t:Int × Int)=>KBf t.1 t.2)
def YY (x0:ByteArray) (x1:ByteArray):M (Int):=do
 let Xx3←Z1 x0 x1
 M.pure Xx3
theorem KDU (x0:ByteArray) (x1:ByteArray):Ki Go.Proofs.Tryz.prog 72 #[.string x0,.string x1] (fun (r:Int)=>.int .i64 r) (YY x0 x1) :=
 KL [mkC YM YQ [.S,.S] [.I .i64] (fun (t:ByteArray × ByteArray)=>Z1 t.1 t.2) (fun (t:ByteArray × ByteArray)=>Yo t.1 t.2)] [] [.I .i64] [(0,.S x0),(1,.S x1)] .o Go.Proofs.Tryz.func72 rfl rfl ⟨rfl,rfl,trivial⟩ rfl (by kernel_rfl) (by kernel_rfl)
noncomputable def KDV:CalleeS Go.Proofs.Tryz.prog:=mkC KCS KCe [.S,.S] [.I .i64] (fun (t:ByteArray × ByteArray)=>YY t.1 t.2) (fun (t:ByteArray × ByteArray)=>KDU t.1 t.2)
def Kk (C5:Sl) (C6:Sl) (C7:Value) (C8:Sl) (C9:Int) (self1:(Int)→M (Int)):(Int)→M (Int):=fun s=>match s with
 | Xx4=>do
  M.ite (decide (Xx4 < C9)) (do
   let Xx15←ixL C8 Xx4 4
   let Xx16←ldG 4 Xx15
   let Xx17←mkB KB (#[.int .i64 0,.int .i64 0,.string ByteArray.empty,.slice none 0 0]:Array Value)
   M.need (Xx16.size=4)
   stG Xx17 Xx16
   M.ite (decide (Xx4 ≥ (C6.len:Int))) (do
    M.pure 1
    ) (do
    let Xx23←ixL C6 Xx4 4
    let Xx24←ldG 4 Xx23
    let Xx25←mkB KB (#[.int .i64 0,.int .i64 0,.string ByteArray.empty,.slice none 0 0]:Array Value)
    M.need (Xx24.size=4)
    stG Xx25 Xx24
    let Xx28←ldG 4 Xx17
    let Xx29←ldG 4 Xx25
    let Xx30←V7 Go.Proofs.Tryz.prog (fun r:Int=>.int .i64 r) C7 [.agg Xx28,.agg Xx29]
    M.ite (Xx30 != 0) (do
     M.pure Xx30
     ) (do
     self1 (IntKind.wrap .i64 (Xx4+1))
     )
    )
   ) (do
   M.ite (decide ((C5.len:Int) < (C6.len:Int))) (do
    M.pure (-1)
    ) (do
    M.pure 0
    )
   )
def KX (x0:Sl) (x1:Sl) (x2:Value):M (Int):=do
 M.loop (Kk x0 x1 x2 x0 (x0.len:Int)) 0
theorem JK (x0:Sl) (x1:Sl) (x2:Value):Ki Go.Proofs.Tryz.prog 73 #[(x0:Sl).v,(x1:Sl).v,x2] (fun (r:Int)=>.int .i64 r) (KX x0 x1 x2) :=
 KL [] [] [.I .i64] [(0,.L x0),(1,.L x1),(2,.V x2)] (.q .o (.q (.q .o (.b (.l [(0,.L),(1,.L),(2,.V),(11,.L),(12,.I .i64)] [(13,.I .i64)] (fun (t:Sl × Sl × Value × Sl × Int)=>Kk t.1 t.2.1 t.2.2.1 t.2.2.2.1 t.2.2.2.2) (fun _=>.o)))) .o)) Go.Proofs.Tryz.func73 rfl rfl ⟨rfl,rfl,rfl,trivial⟩ rfl (by kernel_rfl) (by kernel_rfl)
noncomputable def JL:CalleeS Go.Proofs.Tryz.prog:=mkC JH JI [.L,.L,.V] [.I .i64] (fun (t:Sl × Sl × Value)=>KX t.1 t.2.1 t.2.2) (fun (t:Sl × Sl × Value)=>JK t.1 t.2.1 t.2.2)
def Ur (x0:Array Value) (x1:Array Value):M (Int):=do
 let Xx2←mkB KB x0
 let Xx3←mkB KB x1
 let Xx5←ldI .i64 ((Xx2).add 0)
 let Xx6←ldI .i64 ((Xx3).add 0)
 let Xx7←ldI .i64 ((Xx2).add 1)
 let Xx8←ldI .i64 ((Xx3).add 1)
 let Xx9←ldS ((Xx2).add 2)
 let Xx10←ldS ((Xx3).add 2)
 let Xx11←ldL ((Xx2).add 3)
 let Xx12←ldL ((Xx3).add 3)
 let Xx13←WF Xx5 Xx6
 chk (fun h:Heap=>(KO h ((Xx2).add 0)=some (.int .i64 Xx5))∧(KO h ((Xx3).add 0)=some (.int .i64 Xx6))∧(KO h ((Xx2).add 1)=some (.int .i64 Xx7))∧(KO h ((Xx3).add 1)=some (.int .i64 Xx8))∧(KO h ((Xx2).add 2)=some (.string Xx9))∧(KO h ((Xx3).add 2)=some (.string Xx10))∧(KO h ((Xx2).add 3)=some ((Xx11:Sl).v))∧(KO h ((Xx3).add 3)=some ((Xx12:Sl).v)))
 let Xx14←VB Xx7 Xx8
 chk (fun h:Heap=>(KO h ((Xx2).add 0)=some (.int .i64 Xx5))∧(KO h ((Xx3).add 0)=some (.int .i64 Xx6))∧(KO h ((Xx2).add 1)=some (.int .i64 Xx7))∧(KO h ((Xx3).add 1)=some (.int .i64 Xx8))∧(KO h ((Xx2).add 2)=some (.string Xx9))∧(KO h ((Xx3).add 2)=some (.string Xx10))∧(KO h ((Xx2).add 3)=some ((Xx11:Sl).v))∧(KO h ((Xx3).add 3)=some ((Xx12:Sl).v)))
 let Xx15←YY Xx9 Xx10
 chk (fun h:Heap=>(KO h ((Xx2).add 0)=some (.int .i64 Xx5))∧(KO h ((Xx3).add 0)=some (.int .i64 Xx6))∧(KO h ((Xx2).add 1)=some (.int .i64 Xx7))∧(KO h ((Xx3).add 1)=some (.int .i64 Xx8))∧(KO h ((Xx2).add 2)=some (.string Xx9))∧(KO h ((Xx3).add 2)=some (.string Xx10))∧(KO h ((Xx2).add 3)=some ((Xx11:Sl).v))∧(KO h ((Xx3).add 3)=some ((Xx12:Sl).v)))
 let Xx16←KX Xx11 Xx12 (Value.func (.func JB) #[] #[])
 let Xx17←bdL VY 4 #[.int .i64 Xx13,.int .i64 Xx14,.int .i64 Xx15,.int .i64 Xx16]
 let Xx18←qO Xx17
 M.pure Xx18
theorem G9 (x0:Array Value) (x1:Array Value):Ki Go.Proofs.Tryz.prog 13 #[.agg x0,.agg x1] (fun (r:Int)=>.int .i64 r) (Ur x0 x1) :=
 KL [KHy,KDR,KBg,KDV,JL] [] [.I .i64] [(0,.G x0),(1,.G x1)] (.q .o (.q (.r [0,1,0,4,10,0,32,0,128,336,0,1024,0,4096,10752,0,32768,0,131072,344064,541200,1572864,4194303] [0,1,0,4,10,0,32,0,128,320,0,1024,0,4096,10240,0,32768,0,131072,327680,541200,1048576,2097152] [0,1,0,4,15,0,32,0,128,511,0,1024,0,4096,16383,0,32768,0,131072,524287,1048575,2097151,4194303] (.pu 0 (.pu 2 (.pu 5 (.pu 7 (.pu 10 (.pu 12 (.pu 15 (.pu 17 (.pu 1 (.pu 3 (.pu 6 (.pu 8 (.pu 11 (.pu 13 (.pu 16 (.pu 18 (.st [19,20,21,22] (.on 4 (.on 9 (.on 14 (.on 19 (.on 20 (.on 21 (.pu 22 (.nx .dn)))))))))))))))))))))))))) .o)) Go.Proofs.Tryz.func13 rfl rfl ⟨rfl,rfl,trivial⟩ rfl (by kernel_rfl) (by kernel_rfl)
noncomputable def NA:CalleeS Go.Proofs.Tryz.prog:=mkC JB zK [.G,.G] [.I .i64] (fun (t:Array Value × Array Value)=>Ur t.1 t.2) (fun (t:Array Value × Array Value)=>G9 t.1 t.2)
def Zj (C5:Sl) (C6:Value) (C7:Int) (self1:(Int)→M (Int)):(Int)→M (Int):=fun s=>match s with
 | Xx4=>do
  M.ite (decide (Xx4 < C7)) (do
   let Xx14←ixL C5 Xx4 4
   let Xx15←ldG 4 Xx14
   let Xx16←V7 Go.Proofs.Tryz.prog (fun r:Bool=>.bool r) C6 [.agg Xx15]
   M.ite Xx16 (do
    M.pure Xx4
    ) (do
    self1 (IntKind.wrap .i64 (Xx4+1))
    )
   ) (do
   M.pure (-1)
   )
def ZR (x0:Sl) (x1:Value):M (Int):=do
 M.loop (Zj x0 x1 (x0.len:Int)) 0
theorem Vw (x0:Sl) (x1:Value):Ki Go.Proofs.Tryz.prog 169 #[(x0:Sl).v,x1] (fun (r:Int)=>.int .i64 r) (ZR x0 x1) :=
 KL [] [] [.I .i64] [(0,.L x0),(1,.V x1)] (.q .o (.q (.q .o (.b (.l [(0,.L),(1,.V),(7,.I .i64)] [(8,.I .i64)] (fun (t:Sl × Value × Int)=>Zj t.1 t.2.1 t.2.2) (fun _=>.o)))) .o)) Go.Proofs.Tryz.func169 rfl rfl ⟨rfl,rfl,trivial⟩ rfl (by kernel_rfl) (by kernel_rfl)
noncomputable def Vx:CalleeS Go.Proofs.Tryz.prog:=mkC Vo Vp [.L,.V] [.I .i64] (fun (t:Sl × Value)=>ZR t.1 t.2) (fun (t:Sl × Value)=>Vw t.1 t.2)
def Kt (x0:Sl) (x1:Value):M (Bool):=do
 let Xx3←ZR x0 x1
 M.pure (decide (Xx3 ≥ 0))
theorem VS (x0:Sl) (x1:Value):Ki Go.Proofs.Tryz.prog 128 #[(x0:Sl).v,x1] (fun (r:Bool)=>.bool r) (Kt x0 x1) :=
 KL [Vx] [] [.B] [(0,.L x0),(1,.V x1)] .o Go.Proofs.Tryz.func128 rfl rfl ⟨rfl,rfl,trivial⟩ rfl (by kernel_rfl) (by kernel_rfl)
noncomputable def VT:CalleeS Go.Proofs.Tryz.prog:=mkC VM VN [.L,.V] [.B] (fun (t:Sl × Value)=>Kt t.1 t.2) (fun (t:Sl × Value)=>VS t.1 t.2)
def XV (C12:Addr) (C13:Addr):M (Bool):=do
 let Xx15←ldI .i64 ((C12).add 1)
 let Xx16←M.ite (Xx15 == 0) (do
  let Xx17←ldS ((C12).add 2)
  M.pure (sEq Xx17 ByteArray.empty)
  ) (do
  M.pure false
  )
 let Xx18←M.ite Xx16 (do
  let Xx19←ldL ((C12).add 3)
  let Xx20←Kt Xx19 (Value.func (.func KFk) #[] #[.pointer (some C13)])
  M.pure (!Xx20)
  ) (do
  M.pure false
  )
 M.pure Xx18
def zr (C61:Addr) (C62:Addr) (self1:(Int)→M (Bool)):(Int)→M (Bool):=fun s=>match s with
 | Xx60=>do
  let Xx66←ldL ((C61).add 3)
  M.ite (decide (Xx60 < (Xx66.len:Int))) (do
   let Xx69←ldL ((C61).add 3)
   let Xx70←ixL Xx69 (IntKind.wrap .i64 (Xx60 - 2)) 4
   let Xx71←ldG 4 Xx70
   let Xx72←ldL ((C61).add 3)
   let Xx73←ixL Xx72 Xx60 4
   let Xx74←ldG 4 Xx73
   let Xx75←Ur Xx71 Xx74
   M.ite (decide (Xx75 ≥ 0)) (do
    M.pure false
    ) (do
    self1 (IntKind.wrap .i64 (Xx60+2))
    )
   ) (do
   XV C61 C62
   )
def XW (C32:Addr) (C33:Addr) (C34:Bool) (C35:Int) (Xx31:Bool):M (Bool):=do
 M.ite Xx31 (do
  let Xx37←M.ite C34 (do
   let Xx38←ldI .i64 ((C32).add 1)
   M.pure (decide (Xx38 ≥ 1))
   ) (do
   M.pure false
   )
  let Xx39←M.ite Xx37 (do
   let Xx40←ldI .i64 ((C32).add 1)
   M.pure (decide (Xx40≤281474976710656))
   ) (do
   M.pure false
   )
  M.pure Xx39
  ) (do
  M.ite (C35 == 2) (do
   let Xx43←ldI .i64 ((C32).add 1)
   let Xx44←M.ite (Xx43 == 0) (do
    let Xx45←ldL ((C32).add 3)
    M.pure ((Xx45.len:Int) == 0)
    ) (do
    M.pure false
    )
   let Xx46←M.ite Xx44 (do
    let Xx47←ldS ((C32).add 2)
    M.pure (decide ((Xx47.size:Int)≤128))
    ) (do
    M.pure false
    )
   M.pure Xx46
   ) (do
   M.ite (C35 == 4) (do
    let Xx50←ldL ((C32).add 3)
    M.ite (decide ((Xx50.len:Int) > 256)) (do
     M.pure false
     ) (do
     XV C32 C33
     )
    ) (do
    M.ite (C35 == 5) (do
     let Xx55←ldL ((C32).add 3)
     let Xx56←M.ite (decide ((Xx55.len:Int) > 512)) (do
      M.pure true
      ) (do
      let Xx57←ldL ((C32).add 3)
      M.pure ((Int.tmod (Xx57.len:Int) 2) == 1)
      )
     M.ite Xx56 (do
      M.pure false
      ) (do
      M.loop (zr C32 C33) 2
      )
     ) (do
     M.pure false
     )
    )
   )
  )
def NB (x0:Array Value) (x1:Int):M (Bool):=do
 let Xx2←mkB KB x0
 let Xx3←mkB VY #[.int .i64 x1]
 let Xx6←ldI .i64 Xx3
 M.ite (decide (Xx6 > 8)) (do
  M.pure false
  ) (do
  let Xx9←ldS ((Xx2).add 2)
  let Xx10←M.ite (sEq Xx9 ByteArray.empty) (do
   let Xx11←ldL ((Xx2).add 3)
   M.pure ((Xx11.len:Int) == 0)
   ) (do
   M.pure false
   )
  let Xx22←ldI .i64 ((Xx2).add 0)
  M.ite (Xx22 == 1) (do
   M.pure Xx10
   ) (do
   M.ite (Xx22 == 3) (do
    let Xx27←M.ite Xx10 (do
     let Xx28←ldI .i64 ((Xx2).add 1)
     let Xx29←M.ite (Xx28 == 0) (do
      M.pure true
      ) (do
      let Xx30←ldI .i64 ((Xx2).add 1)
      M.pure (Xx30 == 1)
      )
     M.pure Xx29
     ) (do
     M.pure false
     )
    M.pure Xx27
    ) (do
    M.ite (Xx22 == 6) (do
     XW Xx2 Xx3 Xx10 Xx22 (Xx22 == 6)
     ) (do
     XW Xx2 Xx3 Xx10 Xx22 (Xx22 == 7)
     )
    )
   )
  )
theorem KIv (x0:Array Value) (x1:Int):Ki Go.Proofs.Tryz.prog 74 #[.agg x0,.int .i64 x1] (fun (r:Bool)=>.bool r) (NB x0 x1) :=
 KL [VT,NA] [] [.B] [(0,.G x0),(1,.I .i64 x1)] (.q .o (.q .o (.q .o (.q (.q .o (.b (.q .o (.q .o (.q .o (.q .o (.q .o (.j [(2,.A),(3,.A),(5,.B),(19,.I .i64),(36,.B)] (fun (t:Addr × Addr × Bool × Int × Bool)=>XW t.1 t.2.1 t.2.2.1 t.2.2.2.1 t.2.2.2.2) (.q .o (.q .o (.q .o (.q .o (.q .o (.q .o (.q (.q .o (.q .o (.b (.l [(2,.A),(3,.A)] [(6,.I .i64)] (fun (t:Addr × Addr)=>zr t.1 t.2) (fun _=>.q .o (.q (.b (.q (.r [0,1,0,4,10,16,0,64,0,384,512,1056,2048] [0,1,0,4,10,16,0,64,0,384,512,1056,2048] [0,1,0,4,15,31,0,64,0,448,960,2047,4095] (.pu 0 (.pu 2 (.pu 3 (.pu 6 (.pu 8 (.pu 1 (.pu 4 (.pu 5 (.pu 7 (.pu 9 (.pu 10 (.st [11,12] (.on 11 (.pu 12 (.nx .dn)))))))))))))))) .o)) .o)))))) .o))))))))))))))) (.j [(2,.A),(3,.A)] (fun (t:Addr × Addr)=>XV t.1 t.2) .o))))) Go.Proofs.Tryz.func74 rfl rfl ⟨rfl,rfl,trivial⟩ rfl (by kernel_rfl) (by kernel_rfl)
noncomputable def KE0:CalleeS Go.Proofs.Tryz.prog:=mkC KHr KHv [.G,.I .i64] [.B] (fun (t:Array Value × Int)=>NB t.1 t.2) (fun (t:Array Value × Int)=>KIv t.1 t.2)
def W8 (x0:Array Value):M (Int):=do
 let Xx2←mkB KB x0
 let Xx5←ldG 4 Xx2
 let Xx6←NB Xx5 1
 M.ite (!Xx6) (do
  M.pure 20
  ) (do
  M.pure 0
  )
theorem KGv (x0:Array Value):Ki Go.Proofs.Tryz.prog 16 #[.agg x0] (fun (r:Int)=>.int .i64 r) (W8 x0) :=
 KL [KE0] [] [.I .i64] [(0,.G x0)] .o Go.Proofs.Tryz.func16 rfl rfl ⟨rfl,trivial⟩ rfl (by kernel_rfl) (by kernel_rfl)
noncomputable def q8:CalleeS Go.Proofs.Tryz.prog:=mkC KFi KFq [.G] [.I .i64] (fun (t:Array Value)=>W8 t) (fun (t:Array Value)=>KGv t)
def NC (C5:Sl) (C6:Int) (self1:(Int)→M (Int)):(Int)→M (Int):=fun s=>match s with
 | Xx4=>do
  M.ite (decide (Xx4 < C6)) (do
   let Xx12←ixL C5 Xx4 4
   let Xx13←ldG 4 Xx12
   let Xx14←mkB KB (#[.int .i64 0,.int .i64 0,.string ByteArray.empty,.slice none 0 0]:Array Value)
   M.need (Xx13.size=4)
   stG Xx14 Xx13
   let Xx17←ldG 4 Xx14
   let Xx18←W8 Xx17
   M.ite (Xx18 != 0) (do
    M.pure Xx18
    ) (do
    self1 (IntKind.wrap .i64 (Xx4+1))
    )
   ) (do
   M.pure 0
   )
def YH (x0:Sl):M (Int):=do
 M.loop (NC x0 (x0.len:Int)) 0
theorem KA9 (x0:Sl):Ki Go.Proofs.Tryz.prog 94 #[(x0:Sl).v] (fun (r:Int)=>.int .i64 r) (YH x0) :=
 KL [q8] [] [.I .i64] [(0,.L x0)] (.q .o (.q (.q .o (.b (.l [(6,.L),(7,.I .i64)] [(8,.I .i64)] (fun (t:Sl × Int)=>NC t.1 t.2) (fun _=>.o)))) .o)) Go.Proofs.Tryz.func94 rfl rfl ⟨rfl,trivial⟩ rfl (by kernel_rfl) (by kernel_rfl)
noncomputable def KFy:CalleeS Go.Proofs.Tryz.prog:=mkC KEq zn [.L] [.I .i64] (fun (t:Sl)=>YH t) (fun (t:Sl)=>KA9 t)
def N9 (C12:Addr) (C13:Sl) (C14:Int) (self1:(Int)→M (ByteArray × Int)):(Int)→M (ByteArray × Int):=fun s=>match s with
 | Xx11=>do
  M.ite (decide (Xx11 < C14)) (do
   let Xx20←ixL C13 Xx11 4
   let Xx21←ldG 4 Xx20
   let Xx22←mkB KB (#[.int .i64 0,.int .i64 0,.string ByteArray.empty,.slice none 0 0]:Array Value)
   M.need (Xx21.size=4)
   stG Xx22 Xx21
   let Xx25←ldG 4 Xx22
   let Xx26←Y3 Xx25
   let Xx27←KW (some C12) Xx26
   let Xx28←Kj (some C12) 10
   self1 (IntKind.wrap .i64 (Xx11+1))
   ) (do
   let Xx30←ZG (some C12)
   M.pure (Xx30,0)
   )
def Y4 (x0:Sl):M (ByteArray × Int):=do
 let Xx4←YH x0
 M.ite (Xx4 != 0) (do
  M.pure (ByteArray.empty,Xx4)
  ) (do
  let Xx8←mkB ZZ (#[.pointer none,.slice none 0 0]:Array Value)
  M.loop (N9 Xx8 x0 (x0.len:Int)) 0
  )
theorem KGw (x0:Sl):Ki Go.Proofs.Tryz.prog 49 #[(x0:Sl).v] (fun (r:ByteArray × Int)=>.tuple #[.string r.1,.int .i64 r.2]) (Y4 x0) :=
 KL [zq,KFy,Ze,UU,J5] [] [.S,.I .i64] [(0,.L x0)] (.q .o (.q .o (.q .o (.q (.q .o (.b (.l [(5,.A),(13,.L),(14,.I .i64)] [(15,.I .i64)] (fun (t:Addr × Sl × Int)=>N9 t.1 t.2.1 t.2.2) (fun _=>.o)))) .o)))) Go.Proofs.Tryz.func49 rfl rfl ⟨rfl,trivial⟩ rfl (by kernel_rfl) (by kernel_rfl)
noncomputable def KGx:CalleeS Go.Proofs.Tryz.prog:=mkC KFf KFn [.L] [.S,.I .i64] (fun (t:Sl)=>Y4 t) (fun (t:Sl)=>KGw t)
def Zq (x0:Int) (x1:Int):M (Int):=do
 M.ite (decide (x0 < x1)) (do
  M.pure (-1)
  ) (do
  M.ite (decide (x0 > x1)) (do
   M.pure 1
   ) (do
   M.pure 0
   )
  )
theorem KDW (x0:Int) (x1:Int):Ki Go.Proofs.Tryz.prog 85 #[.int .i64 x0,.int .i64 x1] (fun (r:Int)=>.int .i64 r) (Zq x0 x1) :=
 KL [] [] [.I .i64] [(0,.I .i64 x0),(1,.I .i64 x1)] .o Go.Proofs.Tryz.func85 rfl rfl ⟨rfl,rfl,trivial⟩ rfl (by kernel_rfl) (by kernel_rfl)
noncomputable def qP:CalleeS Go.Proofs.Tryz.prog:=mkC KCO KCa [.I .i64,.I .i64] [.I .i64] (fun (t:Int × Int)=>Zq t.1 t.2) (fun (t:Int × Int)=>KDW t.1 t.2)
def W9 (C5:ByteArray) (C6:ByteArray) (self1:(Int)→M (Int)):(Int)→M (Int):=fun s=>match s with
 | Xx4=>do
  let Xx10←M.ite (decide (Xx4 < (C5.size:Int))) (do
   M.pure (decide (Xx4 < (C6.size:Int)))
   ) (do
   M.pure false
   )
  M.ite Xx10 (do
   let Xx13←ixS C5 Xx4
   let Xx14←ixS C6 Xx4
   M.ite (Xx13 != Xx14) (do
    let Xx16←ixS C5 Xx4
    let Xx17←ixS C6 Xx4
    let Xx18←Zq (IntKind.wrap .i64 Xx16) (IntKind.wrap .i64 Xx17)
    M.pure Xx18
    ) (do
    self1 (IntKind.wrap .i64 (Xx4+1))
    )
   ) (do
   let Xx20←Zq (C5.size:Int) (C6.size:Int)
   M.pure Xx20
   )
def VZ (x0:ByteArray) (x1:ByteArray):M (Int):=do
 M.loop (W9 x0 x1) 0
theorem KCk (x0:ByteArray) (x1:ByteArray):Ki Go.Proofs.Tryz.prog 86 #[.string x0,.string x1] (fun (r:Int)=>.int .i64 r) (VZ x0 x1) :=
 KL [qP] [] [.I .i64] [(0,.S x0),(1,.S x1)] (.q .o (.q (.q .o (.b (.l [(0,.S),(1,.S)] [(5,.I .i64)] (fun (t:ByteArray × ByteArray)=>W9 t.1 t.2) (fun _=>.q .o (.q (.b (.q (.r [0,0,3,0,0,24,36] [0,0,3,0,0,24,36] [0,0,3,0,0,24,63] (.pu 0 (.pu 1 (.pu 2 (.pu 3 (.pu 4 (.pu 5 (.pu 6 (.st [0,1,2,3,4,5,6] .dn))))))))) (.q (.q (.r [0,0,3,4,0,0,48,64,136,511] [0,0,3,4,0,0,48,64,136,256] [0,0,3,7,0,0,48,112,255,511] (.pu 0 (.pu 1 (.pu 2 (.pu 3 (.pu 4 (.pu 5 (.pu 6 (.pu 7 (.st [0,1,2,3,4,5,6,7,8,9] (.on 8 (.pu 9 (.nx .dn))))))))))))) .o) .o))) .o))))) .o)) Go.Proofs.Tryz.func86 rfl rfl ⟨rfl,rfl,trivial⟩ rfl (by kernel_rfl) (by kernel_rfl)
noncomputable def KCl:CalleeS Go.Proofs.Tryz.prog:=mkC KBO KBY [.S,.S] [.I .i64] (fun (t:ByteArray × ByteArray)=>VZ t.1 t.2) (fun (t:ByteArray × ByteArray)=>KCk t.1 t.2)
def Vq (C28:Addr) (C29:Addr) (self1:(Int)→M (Int)):(Int)→M (Int):=fun s=>match s with
 | Xx27=>do
  let Xx33←ldL ((C28).add 3)
  let Xx34←M.ite (decide (Xx27 < (Xx33.len:Int))) (do
   let Xx35←ldL ((C29).add 3)
   M.pure (decide (Xx27 < (Xx35.len:Int)))
   ) (do
   M.pure false
   )
  M.ite Xx34 (do
   let Xx38←ldL ((C28).add 3)
   let Xx39←ixL Xx38 Xx27 4
   let Xx40←ldG 4 Xx39
   let Xx41←ldL ((C29).add 3)
   let Xx42←ixL Xx41 Xx27 4
   let Xx43←ldG 4 Xx42
   let Xx44←WP Go.Proofs.Tryz.prog Ua #[.agg Xx40,.agg Xx43] (fun r:Int=>.int .i64 r)
   M.ite (Xx44 != 0) (do
    M.pure Xx44
    ) (do
    self1 (IntKind.wrap .i64 (Xx27+1))
    )
   ) (do
   let Xx48←ldL ((C28).add 3)
   let Xx49←ldL ((C29).add 3)
   let Xx50←Zq (Xx48.len:Int) (Xx49.len:Int)
   M.pure Xx50
   )
def Zr (x0:Array Value) (x1:Array Value):M (Int):=do
 let Xx2←mkB KB x0
 let Xx3←mkB KB x1
 let Xx6←ldI .i64 ((Xx2).add 0)
 let Xx7←ldI .i64 ((Xx3).add 0)
 let Xx8←Zq Xx6 Xx7
 M.ite (Xx8 != 0) (do
  M.pure Xx8
  ) (do
  let Xx13←ldI .i64 ((Xx2).add 1)
  let Xx14←ldI .i64 ((Xx3).add 1)
  let Xx15←Zq Xx13 Xx14
  M.ite (Xx15 != 0) (do
   M.pure Xx15
   ) (do
   let Xx20←ldS ((Xx2).add 2)
   let Xx21←ldS ((Xx3).add 2)
   let Xx22←VZ Xx20 Xx21
   M.ite (Xx22 != 0) (do
    M.pure Xx22
    ) (do
    M.loop (Vq Xx2 Xx3) 0
    )
   )
  )
theorem XX (x0:Array Value) (x1:Array Value):Ki Go.Proofs.Tryz.prog 38 #[.agg x0,.agg x1] (fun (r:Int)=>.int .i64 r) (Zr x0 x1) :=
 KL [mkC Ua Ys [.G,.G] [.I .i64] (fun (t:Array Value × Array Value)=>WP Go.Proofs.Tryz.prog Ua #[.agg t.1,.agg t.2] (fun r:Int=>.int .i64 r)) (fun (t:Array Value × Array Value)=>JN),qP,KCl] [] [.I .i64] [(0,.G x0),(1,.G x1)] (.q .o (.q .o (.q .o (.q .o (.q (.q .o (.b (.l [(2,.A),(3,.A)] [(8,.I .i64)] (fun (t:Addr × Addr)=>Vq t.1 t.2) (fun _=>.q .o (.q (.b (.q (.r [0,1,0,6,8,0,32,0,192,256,528,2047] [0,1,0,6,8,0,32,0,192,256,528,1024] [0,1,0,7,15,0,32,0,224,480,1023,2047] (.pu 0 (.pu 2 (.pu 5 (.pu 7 (.pu 1 (.pu 3 (.pu 4 (.pu 6 (.pu 8 (.pu 9 (.st [10,11] (.on 10 (.pu 11 (.nx .dn))))))))))))))) .o)) .o))))) .o))))) Go.Proofs.Tryz.func38 rfl rfl ⟨rfl,rfl,trivial⟩ rfl (by kernel_rfl) (by kernel_rfl)
noncomputable def WJ:CalleeS Go.Proofs.Tryz.prog:=mkC Ua Ys [.G,.G] [.I .i64] (fun (t:Array Value × Array Value)=>Zr t.1 t.2) (fun (t:Array Value × Array Value)=>XX t.1 t.2)
def Wd (C5:Sl) (self1:(Int)→M (Bool)):(Int)→M (Bool):=fun s=>match s with
 | Xx4=>do
  M.ite (decide (Xx4 < (C5.len:Int))) (do
   let Xx11←ixL C5 (IntKind.wrap .i64 (Xx4 - 2)) 4
   let Xx12←ixL C5 Xx4 4
   let Xx13←ldG 4 Xx11
   let Xx14←ldG 4 Xx12
   let Xx15←Zr Xx13 Xx14
   M.ite (decide (Xx15 ≥ 0)) (do
    M.pure false
    ) (do
    self1 (IntKind.wrap .i64 (Xx4+2))
    )
   ) (do
   M.pure true
   )
def VC (x0:Sl):M (Bool):=do
 M.loop (Wd x0) 2
theorem KBh (x0:Sl):Ki Go.Proofs.Tryz.prog 140 #[(x0:Sl).v] (fun (r:Bool)=>.bool r) (VC x0) :=
 KL [WJ] [] [.B] [(0,.L x0)] (.q .o (.q (.q .o (.b (.l [(0,.L)] [(3,.I .i64)] (fun (t:Sl)=>Wd t) (fun _=>.q .o (.q (.b (.q (.r [0,0,2,5,8,0,0,96,128,272,512] [0,0,2,5,8,0,0,96,128,272,512] [0,0,2,7,15,0,0,96,224,511,1023] (.pu 0 (.pu 1 (.pu 2 (.pu 3 (.pu 5 (.pu 6 (.pu 7 (.pu 4 (.pu 8 (.st [9,10] (.on 9 (.pu 10 (.nx .dn)))))))))))))) .o)) .o))))) .o)) Go.Proofs.Tryz.func140 rfl rfl ⟨rfl,trivial⟩ rfl (by kernel_rfl) (by kernel_rfl)
noncomputable def KBi:CalleeS Go.Proofs.Tryz.prog:=mkC KAa KAo [.L] [.B] (fun (t:Sl)=>VC t) (fun (t:Sl)=>KBh t)
def Us (C24:Int) (C25:Addr) (C26:Int) (Xx23:Bool):M (Bool):=do
 M.ite Xx23 (do
  let Xx28←ldS ((C25).add 2)
  let Xx29←M.ite (sEq Xx28 ByteArray.empty) (do
   let Xx30←ldL ((C25).add 3)
   M.pure ((Xx30.len:Int) == 0)
   ) (do
   M.pure false
   )
  let Xx31←M.ite Xx29 (do
   let Xx32←ldI .i64 ((C25).add 1)
   M.pure (decide (Xx32 ≥ 1))
   ) (do
   M.pure false
   )
  let Xx33←M.ite Xx31 (do
   let Xx34←ldI .i64 ((C25).add 1)
   M.pure (decide (Xx34≤281474976710656))
   ) (do
   M.pure false
   )
  M.pure Xx33
  ) (do
  M.ite (C26 == 2) (do
   let Xx37←ldI .i64 ((C25).add 1)
   let Xx38←M.ite (Xx37 == 0) (do
    let Xx39←ldL ((C25).add 3)
    M.pure ((Xx39.len:Int) == 0)
    ) (do
    M.pure false
    )
   let Xx40←M.ite Xx38 (do
    let Xx41←ldS ((C25).add 2)
    M.pure (decide ((Xx41.size:Int)≤128))
    ) (do
    M.pure false
    )
   M.pure Xx40
   ) (do
   M.ite (C26 == 4) (do
    let Xx44←ldI .i64 ((C25).add 1)
    let Xx45←M.ite (Xx44 == 0) (do
     let Xx46←ldS ((C25).add 2)
     M.pure (sEq Xx46 ByteArray.empty)
     ) (do
     M.pure false
     )
    let Xx47←M.ite Xx45 (do
     let Xx48←ldL ((C25).add 3)
     M.pure (decide ((Xx48.len:Int)≤256))
     ) (do
     M.pure false
     )
    let Xx49←M.ite Xx47 (do
     let Xx50←ldL ((C25).add 3)
     let Xx51←WP Go.Proofs.Tryz.prog Up #[(Xx50:Sl).v,.int .i64 C24] (fun r:Bool=>.bool r)
     M.pure Xx51
     ) (do
     M.pure false
     )
    M.pure Xx49
    ) (do
    M.ite (C26 == 5) (do
     let Xx54←ldI .i64 ((C25).add 1)
     let Xx55←M.ite (Xx54 == 0) (do
      let Xx56←ldS ((C25).add 2)
      M.pure (sEq Xx56 ByteArray.empty)
      ) (do
      M.pure false
      )
     let Xx57←M.ite Xx55 (do
      let Xx58←ldL ((C25).add 3)
      M.pure (decide ((Xx58.len:Int)≤512))
      ) (do
      M.pure false
      )
     let Xx59←M.ite Xx57 (do
      let Xx60←ldL ((C25).add 3)
      M.pure ((Int.tmod (Xx60.len:Int) 2) == 0)
      ) (do
      M.pure false
      )
     let Xx61←M.ite Xx59 (do
      let Xx62←ldL ((C25).add 3)
      let Xx63←WP Go.Proofs.Tryz.prog Up #[(Xx62:Sl).v,.int .i64 C24] (fun r:Bool=>.bool r)
      M.pure Xx63
      ) (do
      M.pure false
      )
     let Xx64←M.ite Xx61 (do
      let Xx65←ldL ((C25).add 3)
      let Xx66←VC Xx65
      M.pure Xx66
      ) (do
      M.pure false
      )
     M.pure Xx64
     ) (do
     M.pure false
     )
    )
   )
  )
def UV (x0:Array Value) (x1:Int):M (Bool):=do
 let Xx2←mkB KB x0
 M.ite (decide (x1 ≥ 8)) (do
  M.pure false
  ) (do
  let Xx8←ldI .i64 ((Xx2).add 0)
  M.ite (Xx8 == 1) (do
   let Xx11←ldS ((Xx2).add 2)
   let Xx12←M.ite (sEq Xx11 ByteArray.empty) (do
    let Xx13←ldL ((Xx2).add 3)
    M.pure ((Xx13.len:Int) == 0)
    ) (do
    M.pure false
    )
   M.pure Xx12
   ) (do
   M.ite (Xx8 == 3) (do
    let Xx16←ldS ((Xx2).add 2)
    let Xx17←M.ite (sEq Xx16 ByteArray.empty) (do
     let Xx18←ldL ((Xx2).add 3)
     M.pure ((Xx18.len:Int) == 0)
     ) (do
     M.pure false
     )
    let Xx19←M.ite Xx17 (do
     let Xx20←ldI .i64 ((Xx2).add 1)
     let Xx21←M.ite (Xx20 == 0) (do
      M.pure true
      ) (do
      let Xx22←ldI .i64 ((Xx2).add 1)
      M.pure (Xx22 == 1)
      )
     M.pure Xx21
     ) (do
     M.pure false
     )
    M.pure Xx19
    ) (do
    M.ite (Xx8 == 6) (do
     Us x1 Xx2 Xx8 (Xx8 == 6)
     ) (do
     Us x1 Xx2 Xx8 (Xx8 == 7)
     )
    )
   )
  )
theorem qQ (x0:Array Value) (x1:Int):Ki Go.Proofs.Tryz.prog 84 #[.agg x0,.int .i64 x1] (fun (r:Bool)=>.bool r) (UV x0 x1) :=
 KL [mkC Up KCY [.L,.I .i64] [.B] (fun (t:Sl × Int)=>WP Go.Proofs.Tryz.prog Up #[(t.1:Sl).v,.int .i64 t.2] (fun r:Bool=>.bool r)) (fun (t:Sl × Int)=>JN),KBi] [] [.B] [(0,.G x0),(1,.I .i64 x1)] (.q .o (.q .o (.q (.q .o (.b (.q .o (.q .o (.q .o (.q .o (.q .o (.j [(1,.I .i64),(2,.A),(8,.I .i64),(41,.B)] (fun (t:Int × Addr × Int × Bool)=>Us t.1 t.2.1 t.2.2.1 t.2.2.2) .o)))))))) .o))) Go.Proofs.Tryz.func84 rfl rfl ⟨rfl,rfl,trivial⟩ rfl (by kernel_rfl) (by kernel_rfl)
noncomputable def KDX:CalleeS Go.Proofs.Tryz.prog:=mkC Vt Nu [.G,.I .i64] [.B] (fun (t:Array Value × Int)=>UV t.1 t.2) (fun (t:Array Value × Int)=>qQ t.1 t.2)
end Gx
namespace Gx
open Go
set_option linter.unusedVariables false
set_option maxRecDepth 100000
def UR (x0:Array Value):M (Int):=do
 let Xx2←mkB KB x0
 let Xx5←ldG 4 Xx2
 let Xx6←UV Xx5 0
 M.ite (!Xx6) (do
  M.pure 20
  ) (do
  M.pure 0
  )
theorem KBj (x0:Array Value):Ki Go.Proofs.Tryz.prog 25 #[.agg x0] (fun (r:Int)=>.int .i64 r) (UR x0) :=
 KL [KDX] [] [.I .i64] [(0,.G x0)] .o Go.Proofs.Tryz.func25 rfl rfl ⟨rfl,trivial⟩ rfl (by kernel_rfl) (by kernel_rfl)
noncomputable def ND:CalleeS Go.Proofs.Tryz.prog:=mkC KAW KAk [.G] [.I .i64] (fun (t:Array Value)=>UR t) (fun (t:Array Value)=>KBj t)
def Ul (x0:Int):M (Int):=do
 M.ite (decide (x0 < 0)) (do
  M.pure (IntKind.wrap .u64 (0 - (IntKind.wrap .u64 x0)))
  ) (do
  M.pure (IntKind.wrap .u64 x0)
  )
theorem KCm (x0:Int):Ki Go.Proofs.Tryz.prog 199 #[.int .i64 x0] (fun (r:Int)=>.int .u64 r) (Ul x0) :=
 KL [] [] [.I .u64] [(0,.I .i64 x0)] .o Go.Proofs.Tryz.func199 rfl rfl ⟨rfl,trivial⟩ rfl (by kernel_rfl) (by kernel_rfl)
noncomputable def KCn:CalleeS Go.Proofs.Tryz.prog:=mkC KBK KBU [.I .i64] [.I .u64] (fun (t:Int)=>Ul t) (fun (t:Int)=>KCm t)
def WK (self1:(Int × Sl)→M (Sl)):(Int × Sl)→M (Sl):=fun s=>match s with
 | (Xx6,Xx7)=>do
  let Xx11←M.ite (decide (Xx6 > 0)) (do
   M.pure true
   ) (do
   M.pure ((Xx7.len:Int) == 0)
   )
  M.ite Xx11 (do
   let Xx13←bdL VY 1 #[.int .i64 (IntKind.wrap .i64 (Int.tmod Xx6 10))]
   let Xx14←apL VY 1 8 (#[.int .i64 0]:Array Value) Xx13 Xx7
   self1 (IntKind.wrap .u64 (Int.tdiv Xx6 10),Xx14)
   ) (do
   M.pure Xx7
   )
def Ut (x0:Int):M (Sl):=do
 let Xx3←Ul x0
 M.loop WK (Xx3,Sl.nil)
theorem KAy (x0:Int):Ki Go.Proofs.Tryz.prog 157 #[.int .i64 x0] (fun (r:Sl)=>(r:Sl).v) (Ut x0) :=
 KL [KCn] [] [.L] [(0,.I .i64 x0)] (.q .o (.q .o (.q .o (.q (.b (.l [] [(3,.I .u64),(4,.L)] (fun (t:Unit)=>WK) (fun _=>.o))) .o)))) Go.Proofs.Tryz.func157 rfl rfl ⟨rfl,trivial⟩ rfl (by kernel_rfl) (by kernel_rfl)
noncomputable def KAz:CalleeS Go.Proofs.Tryz.prog:=mkC zi zl [.I .i64] [.L] (fun (t:Int)=>Ut t) (fun (t:Int)=>KAy t)
def YA (C11:Sl) (self1:(ByteArray × Int)→M (ByteArray)):(ByteArray × Int)→M (ByteArray):=fun s=>match s with
 | (Xx9,Xx10)=>do
  M.ite (decide (Xx10 < (C11.len:Int))) (do
   let Xx16←ixL C11 Xx10 1
   let Xx17←ldI .i64 Xx16
   let Xx18←bdL KY 1 #[.int .u8 (IntKind.wrap .u8 (IntKind.wrap .i64 (48+Xx17)))]
   let Xx19←b2s Xx18
   let Xx20←sCat Xx9 Xx19
   self1 (Xx20,IntKind.wrap .i64 (Xx10+1))
   ) (do
   M.pure Xx9
   )
def UW (C4:Int) (Xx3:ByteArray):M (ByteArray):=do
 let Xx6←Ut C4
 M.loop (YA Xx6) (Xx3,0)
def Ja (x0:Int):M (ByteArray):=do
 M.ite (decide (x0 < 0)) (do
  UW x0 (⟨#[45]⟩:ByteArray)
  ) (do
  UW x0 ByteArray.empty
  )
theorem KCo (x0:Int):Ki Go.Proofs.Tryz.prog 111 #[.int .i64 x0] (fun (r:ByteArray)=>.string r) (Ja x0) :=
 KL [KAz] [] [.S] [(0,.I .i64 x0)] (.q .o (.q .o (.q .o (.j [(0,.I .i64),(3,.S)] (fun (t:Int × ByteArray)=>UW t.1 t.2) (.q .o (.q (.q .o (.b (.l [(4,.L)] [(3,.S),(5,.I .i64)] (fun (t:Sl)=>YA t) (fun _=>.o)))) .o)))))) Go.Proofs.Tryz.func111 rfl rfl ⟨rfl,trivial⟩ rfl (by kernel_rfl) (by kernel_rfl)
noncomputable def Nw:CalleeS Go.Proofs.Tryz.prog:=mkC KBJ KBT [.I .i64] [.S] (fun (t:Int)=>Ja t) (fun (t:Int)=>KCo t)
def JS (self1:(Sl × Int)→M (ByteArray)) (C14:Int) (Xx12:Sl):M (ByteArray):=do
 self1 (Xx12,IntKind.wrap .i64 (C14+1))
def We (C8:ByteArray) (self1:(Sl × Int)→M (ByteArray)):(Sl × Int)→M (ByteArray):=fun s=>match s with
 | (Xx6,Xx7)=>do
  M.ite (decide (Xx7 < (C8.size:Int))) (do
   let Xx16←ixS C8 Xx7
   let Xx18←M.ite (Xx16 == 39) (do
    M.pure true
    ) (do
    M.pure (Xx16 == 92)
    )
   M.ite Xx18 (do
    let Xx19←bdL KY 2 #[.int .u8 92,.int .u8 Xx16]
    let Xx20←apL KY 1 1 (#[.int .u8 0]:Array Value) Xx6 Xx19
    JS self1 Xx7 Xx20
    ) (do
    let Xx22←M.ite (decide (Xx16 < 32)) (do
     M.pure true
     ) (do
     M.pure (decide (Xx16 > 126))
     )
    M.ite Xx22 (do
     let Xx23←ixS (⟨#[48,49,50,51,52,53,54,55,56,57,97,98,99,100,101,102]⟩:ByteArray) (IntKind.wrap .u8 (Int.tdiv Xx16 16))
     let Xx24←ixS (⟨#[48,49,50,51,52,53,54,55,56,57,97,98,99,100,101,102]⟩:ByteArray) (Int.tmod Xx16 16)
     let Xx25←bdL KY 4 #[.int .u8 92,.int .u8 120,.int .u8 Xx23,.int .u8 Xx24]
     let Xx26←apL KY 1 1 (#[.int .u8 0]:Array Value) Xx6 Xx25
     JS self1 Xx7 Xx26
     ) (do
     let Xx27←bdL KY 1 #[.int .u8 Xx16]
     let Xx28←apL KY 1 1 (#[.int .u8 0]:Array Value) Xx6 Xx27
     JS self1 Xx7 Xx28
     )
    )
   ) (do
   let Xx30←bdL KY 1 #[.int .u8 39]
   let Xx31←apL KY 1 1 (#[.int .u8 0]:Array Value) Xx6 Xx30
   let Xx32←b2s Xx31
   M.pure Xx32
   )
def VD (x0:ByteArray):M (ByteArray):=do
 let Xx3←bdL KY 1 #[.int .u8 39]
 M.loop (We x0) (Xx3,0)
theorem KBk (x0:ByteArray):Ki Go.Proofs.Tryz.prog 185 #[.string x0] (fun (r:ByteArray)=>.string r) (VD x0) :=
 KL [] [] [.S] [(0,.S x0)] (.q .o (.q .o (.q (.q .o (.b (.l [(0,.S)] [(3,.L),(4,.I .i64)] (fun (t:ByteArray)=>We t) (fun self1=>.q .o (.q (.b (.q .o (.b (.q .o (.q .o (.q .o (.q (.r [0,0,2,4,0,16,32,72,129,511] [0,0,2,4,0,16,32,72,129,257] [0,0,2,6,0,16,48,126,255,511] (.pu 0 (.pu 1 (.pu 2 (.pu 3 (.pu 4 (.pu 5 (.pu 6 (.st [0,1,2,3,4,5,6,7,8,9] (.on 7 (.on 8 (.pu 9 (.nx .dn))))))))))))) .o))))))) (.j [(0,.S),(4,.I .i64),(3,.L)] (fun (t:ByteArray × Int × Sl)=>JS self1 t.2.1 t.2.2) .o)))))) .o))) Go.Proofs.Tryz.func185 rfl rfl ⟨rfl,trivial⟩ rfl (by kernel_rfl) (by kernel_rfl)
noncomputable def KBl:CalleeS Go.Proofs.Tryz.prog:=mkC KAY KAm [.S] [.S] (fun (t:ByteArray)=>VD t) (fun (t:ByteArray)=>KBk t)
def J9 (x0:Array Value) (x1:Int):M (ByteArray):=do
 let Xx2←mkB KB x0
 M.ite (decide (x1 ≥ 8)) (do
  M.pure (⟨#[63]⟩:ByteArray)
  ) (do
  let Xx8←ldI .i64 ((Xx2).add 0)
  M.ite (Xx8 == 1) (do
   let Xx11←ldI .i64 ((Xx2).add 1)
   let Xx12←Ja Xx11
   M.pure Xx12
   ) (do
   M.ite (Xx8 == 2) (do
    let Xx15←ldS ((Xx2).add 2)
    let Xx16←VD Xx15
    M.pure Xx16
    ) (do
    M.ite (Xx8 == 3) (do
     let Xx20←ldI .i64 ((Xx2).add 1)
     M.ite (Xx20 == 1) (do
      M.pure (⟨#[116,114,117,101]⟩:ByteArray)
      ) (do
      M.pure (⟨#[102,97,108,115,101]⟩:ByteArray)
      )
     ) (do
     M.ite (Xx8 == 6) (do
      let Xx25←ldI .i64 ((Xx2).add 1)
      let Xx26←Ja Xx25
      let Xx27←sCat (⟨#[118,91]⟩:ByteArray) Xx26
      let Xx28←sCat Xx27 (⟨#[93]⟩:ByteArray)
      M.pure Xx28
      ) (do
      M.ite (Xx8 == 7) (do
       let Xx31←ldI .i64 ((Xx2).add 1)
       let Xx32←Ja Xx31
       let Xx33←sCat (⟨#[101,91]⟩:ByteArray) Xx32
       let Xx34←sCat Xx33 (⟨#[93]⟩:ByteArray)
       M.pure Xx34
       ) (do
       M.ite (Xx8 == 4) (do
        let Xx37←ldL ((Xx2).add 3)
        let Xx38←WP Go.Proofs.Tryz.prog U2 #[(Xx37:Sl).v,.int .i64 x1,.string (⟨#[44,32]⟩:ByteArray),.string (⟨#[44,32]⟩:ByteArray)] (fun r:ByteArray=>.string r)
        let Xx39←sCat (⟨#[91]⟩:ByteArray) Xx38
        let Xx40←sCat Xx39 (⟨#[93]⟩:ByteArray)
        M.pure Xx40
        ) (do
        M.ite (Xx8 == 5) (do
         let Xx43←ldL ((Xx2).add 3)
         let Xx44←WP Go.Proofs.Tryz.prog U2 #[(Xx43:Sl).v,.int .i64 x1,.string (⟨#[58,32]⟩:ByteArray),.string (⟨#[44,32]⟩:ByteArray)] (fun r:ByteArray=>.string r)
         let Xx45←sCat (⟨#[123]⟩:ByteArray) Xx44
         let Xx46←sCat Xx45 (⟨#[125]⟩:ByteArray)
         M.pure Xx46
         ) (do
         M.pure (⟨#[63]⟩:ByteArray)
         )
        )
       )
      )
     )
    )
   )
  )
theorem Nx (x0:Array Value) (x1:Int):Ki Go.Proofs.Tryz.prog 151 #[.agg x0,.int .i64 x1] (fun (r:ByteArray)=>.string r) (J9 x0 x1) :=
 KL [Nw,KBl,mkC U2 KAp [.L,.I .i64,.S,.S] [.S] (fun (t:Sl × Int × ByteArray × ByteArray)=>WP Go.Proofs.Tryz.prog U2 #[(t.1:Sl).v,.int .i64 t.2.1,.string t.2.2.1,.string t.2.2.2] (fun r:ByteArray=>.string r)) (fun (t:Sl × Int × ByteArray × ByteArray)=>JN)] [] [.S] [(0,.G x0),(1,.I .i64 x1)] .o Go.Proofs.Tryz.func151 rfl rfl ⟨rfl,rfl,trivial⟩ rfl (by kernel_rfl) (by kernel_rfl)
noncomputable def KCp:CalleeS Go.Proofs.Tryz.prog:=mkC VQ Gr [.G,.I .i64] [.S] (fun (t:Array Value × Int)=>J9 t.1 t.2) (fun (t:Array Value × Int)=>Nx t.1 t.2)
def Va (x0:Array Value):M (ByteArray):=do
 let Xx2←mkB KB x0
 let Xx4←ldG 4 Xx2
 let Xx5←J9 Xx4 0
 M.pure Xx5
theorem KCq (x0:Array Value):Ki Go.Proofs.Tryz.prog 99 #[.agg x0] (fun (r:ByteArray)=>.string r) (Va x0) :=
 KL [KCp] [] [.S] [(0,.G x0)] .o Go.Proofs.Tryz.func99 rfl rfl ⟨rfl,trivial⟩ rfl (by kernel_rfl) (by kernel_rfl)
noncomputable def KCr:CalleeS Go.Proofs.Tryz.prog:=mkC KBN KBX [.G] [.S] (fun (t:Array Value)=>Va t) (fun (t:Array Value)=>KCq t)
def zt (x0:ByteArray):M (Value):=do
 let Xx2←mkB JD #[.string x0]
 M.pure (Value.func (.func qM) #[] #[.pointer (some Xx2)])
theorem KFz (x0:ByteArray):Ki Go.Proofs.Tryz.prog 64 #[.string x0] (fun (r:Value)=>r) (zt x0) :=
 KL [] [] [.V] [(0,.S x0)] .o Go.Proofs.Tryz.func64 rfl rfl ⟨rfl,trivial⟩ rfl (by kernel_rfl) (by kernel_rfl)
def Z3 (x0:ByteArray) (x1:ByteArray):M (Bool):=do
 let Xx3←M.ite (decide ((x0.size:Int) ≥ (x1.size:Int))) (do
  let Xx4←slS x0 (IntKind.wrap .i64 ((x0.size:Int) - (x1.size:Int))) x0.size
  M.pure (sEq Xx4 x1)
  ) (do
  M.pure false
  )
 M.pure Xx3
theorem Yq (x0:ByteArray) (x1:ByteArray):Ki Go.Proofs.Tryz.prog 187 #[.string x0,.string x1] (fun (r:Bool)=>.bool r) (Z3 x0 x1) :=
 KL [] [] [.B] [(0,.S x0),(1,.S x1)] .o Go.Proofs.Tryz.func187 rfl rfl ⟨rfl,rfl,trivial⟩ rfl (by kernel_rfl) (by kernel_rfl)
noncomputable def Yr:CalleeS Go.Proofs.Tryz.prog:=mkC YN YR [.S,.S] [.B] (fun (t:ByteArray × ByteArray)=>Z3 t.1 t.2) (fun (t:ByteArray × ByteArray)=>Yq t.1 t.2)
def WR (x0:ByteArray) (x1:ByteArray):M (Bool):=do
 let Xx3←Z3 x0 x1
 M.pure Xx3
theorem KBm (x0:ByteArray) (x1:ByteArray):Ki Go.Proofs.Tryz.prog 152 #[.string x0,.string x1] (fun (r:Bool)=>.bool r) (WR x0 x1) :=
 KL [Yr] [] [.B] [(0,.S x0),(1,.S x1)] .o Go.Proofs.Tryz.func152 rfl rfl ⟨rfl,rfl,trivial⟩ rfl (by kernel_rfl) (by kernel_rfl)
def XJ (C11:Addr) (C12:Addr) (C13:Addr) (C14:Addr) (lp1:Nat):(Int × ByteArray)→M Nat:=fun x=>match x with
 | (Xx15,Xx16)=>do
  let _←beg lp1
  let Xx20←ldV C11
  let Xx21←V7 Go.Proofs.Tryz.prog (fun r:Bool=>.bool r) Xx20 [.string Xx16]
  M.ite (!Xx21) (do
   stV C12 (.int .i64 Xx15)
   stV C13 (.int .i64 230)
   M.pure 1
   ) (do
   stV C14 (.int .i64 Xx15)
   M.pure 0
   )
def Y5 (x0:ByteArray) (x1:Value):M (Int × Int):=do
 let Xx2←mkB KLi (Value.cells x1)
 let Xx3←mkB VY (#[.int .i64 0]:Array Value)
 let Xx4←mkB UP (#[.int .i64 0]:Array Value)
 let Xx6←mkB VY (#[.int .i64 0]:Array Value)
 stV Xx6 (.int .i64 0)
 let Xx10←zt x0
 let j_26←rgF Go.Proofs.Tryz.prog (fun x:Int × ByteArray=>[.int .i64 x.1,.string x.2]) [.ret] (XJ Xx2 Xx3 Xx4 Xx6) Xx10
 M.ite (decide (j_26.1=1)) (do
  let _←shut (j_26.2::[])
  let Rr27←ldI .i64 Xx3
  let Rr28←ldI .i64 Xx4
  M.pure (Rr27,Rr28)
  ) (do
  let Xx31←M.ite (!(sEq x0 ByteArray.empty)) (do
   let Xx32←WR x0 (⟨#[10]⟩:ByteArray)
   M.pure (!Xx32)
   ) (do
   M.pure false
   )
  M.ite Xx31 (do
   let Xx34←ldI .i64 Xx6
   stV Xx3 (.int .i64 Xx34)
   stV Xx4 (.int .i64 230)
   let _←shut (j_26.2::[])
   let Rr37←ldI .i64 Xx3
   let Rr38←ldI .i64 Xx4
   M.pure (Rr37,Rr38)
   ) (do
   stV Xx3 (.int .i64 0)
   stV Xx4 (.int .i64 0)
   let _←shut (j_26.2::[])
   let Rr42←ldI .i64 Xx3
   let Rr43←ldI .i64 Xx4
   M.pure (Rr42,Rr43)
   )
  )
theorem KGy (x0:ByteArray) (x1:Value):Ki Go.Proofs.Tryz.prog 100 #[.string x0,x1] (fun (r:Int × Int)=>.tuple #[.int .i64 r.1,.int .i64 r.2]) (Y5 x0 x1):=by
 refine KHk [(0,.string x0),(1,x1)] Go.Proofs.Tryz.func100 rfl rfl (Nat.le_of_ble_eq_true rfl) (Yw ⟨rfl,rfl,trivial⟩) (fun w0 w Q R a hret hE hR H=>?_)
 unfold Y5 at H
 refine Kc (fun K hK_1=>?_)
 refine KG ?_
 obtain ⟨Xx2,qXx2,H⟩:=H
 refine XM (v:=.pointer (some Xx2)) rfl rfl hE rfl hR (KOe hE rfl qXx2) (fun a w hE hR hh=>?_)
 replace H:=M.at hh H; clear hh
 obtain ⟨Xx3,qXx3,H⟩:=H
 refine XM (v:=.pointer (some Xx3)) rfl rfl hE rfl hR (Vy zr3 qXx3) (fun a w hE hR hh=>?_)
 replace H:=M.at hh H; clear hh
 obtain ⟨Xx4,qXx4,H⟩:=H
 refine XM (v:=.pointer (some Xx4)) rfl rfl hE rfl hR (Vy zr29 qXx4) (fun a w hE hR hh=>?_)
 replace H:=M.at hh H; clear hh
 refine Ka ?_
 refine hK_1 _ _ ?_
 refine Kc (fun K hK_5=>?_)
 refine KG ?_
 obtain ⟨Xx6,qXx6,H⟩:=H
 refine XM (v:=.pointer (some Xx6)) rfl rfl hE rfl hR (Vy zr3 qXx6) (fun a w hE hR hh=>?_)
 replace H:=M.at hh H; clear hh
 obtain ⟨u_7,qu_7,H⟩:=H
 refine U0 rfl rfl hE hR (Zn hE rfl rfl sz3 qu_7) (fun a w hE hR hh=>?_)
 replace H:=M.at hh H; clear hh
 refine Ka ?_
 refine hK_5 _ _ ?_
 refine Kc (fun K hK_8=>?_)
 refine Kc (fun K hK_9=>?_)
 refine KG ?_
 refine KH (v:=.string x0) rfl rfl hE rfl (KJ hE rfl) (fun a hE=>?_)
 refine Uy hE hR KEt rfl (KFz x0) (M.unbind H) (fun Xx10 a w ea hR H=>?_)
 have hE:=Env.put_some hE rfl ea; clear ea
 refine Ka ?_
 refine hK_9 _ _ ?_
 refine Vm ?_
 refine KJh (js:=[.ret]) (enc:=(fun x:Int × ByteArray=>[.int .i64 x.1,.string x.2])) (Y:=(XJ Xx2 Xx3 Xx4 Xx6)) hE hR rfl (fun x=>rfl) rfl (M.unbind H) (fun lp1 x Q w0 Rr hfin a w hE hR H=>?_) (fun j_26 a w hE hR H=>?_)
 ·skip
  rcases x with ⟨Xx15,Xx16⟩
  replace hE:Env (⟨27,[]⟩:Frm) a [(3,.pointer (some Xx2)),(4,.pointer (some Xx3)),(5,.pointer (some Xx4)),(6,.pointer (some Xx6)),(11,.int .i64 Xx15),(12,.string Xx16)]:=Env.cut hE (.cons rfl (.cons rfl (.cons rfl (.cons rfl (.cons rfl (.cons rfl Subs.nil))))))
  replace H:(XJ Xx2 Xx3 Xx4 Xx6 lp1 (Xx15,Xx16)).wp w.heap Q:=H
  unfold XJ at H
  refine Kc (fun K hK_17=>?_)
  refine KG ?_
  refine KH (v:=.int .i64 Xx15) rfl rfl hE rfl (Kp hE rfl) (fun a hE=>?_)
  refine Ka ?_
  refine hK_17 _ _ ?_
  refine KG ?_
  refine KH (v:=.string Xx16) rfl rfl hE rfl (Kp hE rfl) (fun a hE=>?_)
  refine Ka ?_
  refine KQK hR H (fun w hR H=>?_)
  refine Vm ?_
  refine Kc (fun K hK_18=>?_)
  refine Kc (fun K hK_19=>?_)
  refine KG ?_
  obtain ⟨Xx20,qXx20,H⟩:=H
  refine KH (v:=Xx20) rfl rfl hE rfl (Zk hE rfl sc48 qXx20) (fun a hE=>?_)
  refine KH (v:=.string Xx16) rfl rfl hE rfl (KJ hE rfl) (fun a hE=>?_)
  refine KGc hE hR rfl rfl (M.unbind H) (fun Xx21 a w ea hR H=>?_)
  have hE:=Env.put_some hE rfl ea; clear ea
  refine KH (v:=.bool (!Xx21)) rfl rfl hE rfl (r_un hE rfl KK6) (fun a hE=>?_)
  refine Ka ?_
  refine hK_19 _ _ ?_
  refine Jg (!Xx21) hE rfl (fun hb=>?_) (fun hb=>?_)
  ·replace H:=M.ite_t hb H
   refine Kc (fun K hK_22=>?_)
   refine KG ?_
   refine KH (v:=.int .i64 Xx15) rfl rfl hE rfl (KJ hE rfl) (fun a hE=>?_)
   obtain ⟨u_23,qu_23,H⟩:=H
   refine U0 rfl rfl hE hR (Zn hE rfl rfl sz3 qu_23) (fun a w hE hR hh=>?_)
   replace H:=M.at hh H; clear hh
   obtain ⟨u_24,qu_24,H⟩:=H
   refine U0 rfl rfl hE hR (Zn hE rfl rfl sz29 qu_24) (fun a w hE hR hh=>?_)
   replace H:=M.at hh H; clear hh
   refine Ka ?_
   refine hK_22 _ _ ?_
   refine Yv ?_
   exact ⟨0,rfl,hfin 1 _ _ hR H⟩
  ·replace H:=M.ite_f hb H
   refine Un ?_
   refine hK_18 _ _ ?_
   refine KG ?_
   refine KH (v:=.int .i64 Xx15) rfl rfl hE rfl (KJ hE rfl) (fun a hE=>?_)
   obtain ⟨u_25,qu_25,H⟩:=H
   refine U0 rfl rfl hE hR (Zn hE rfl rfl sz3 qu_25) (fun a w hE hR hh=>?_)
   replace H:=M.at hh H; clear hh
   refine Ka ?_
   exact hfin 0 _ _ hR H
 ·skip
  replace hE:Env (⟨27,(j_26.2::[])⟩:Frm) a [(0,.string x0),(3,.pointer (some Xx2)),(4,.pointer (some Xx3)),(5,.pointer (some Xx4)),(6,.pointer (some Xx6))]:=Env.cut hE (.cons rfl (.cons rfl (.cons rfl (.cons rfl (.cons rfl Subs.nil)))))
  refine KJg (fun hj=>?_) (fun hj=>?_)
  ·replace H:=M.ite_t (decide_eq_true hj) H
   refine Yv ?_
   refine hret _ _ _ _ _ hE hR (M.unbind H) (fun w hR H=>?_)
   obtain ⟨Rr27,qRr27,H⟩:=H
   obtain ⟨Rr28,qRr28,H⟩:=H
   exact ⟨(Rr27,Rr28),_,Jb hE rfl (RV.cell rfl sc3 qRr27 (RV.cell rfl sc29 qRr28 RV.nil)),rfl,H⟩
  ·replace H:=M.ite_f (decide_eq_false hj) H
   refine KLT ?_
   refine hK_8 _ _ ?_
   refine Kc (fun K hK_29=>?_)
   refine Kc (fun K hK_30=>?_)
   refine KG ?_
   refine KH (v:=.string x0) rfl rfl hE rfl (KJ hE rfl) (fun a hE=>?_)
   refine KH (v:=.bool (!(sEq x0 ByteArray.empty))) rfl rfl hE rfl (Zd hE rfl rfl KHg KON) (fun a hE=>?_)
   refine KH (v:=.bool (!(sEq x0 ByteArray.empty))) rfl rfl hE rfl (KJ hE rfl) (fun a hE=>?_)
   refine KHc (n:=(⟨27,(j_26.2::[])⟩:Frm)) (w0:=w0) 4 (fun Xx31:Bool=>[(4,.pointer (some Xx3)),(5,.pointer (some Xx4)),(6,.pointer (some Xx6)),(25,.bool Xx31)]) (M.unbind H) (fun Kr hKr H=>?_) ?_
   ·rcases WY (!(sEq x0 ByteArray.empty)) with hb | hb
    ·replace H:=M.ite_t hb H
     have hE:=hE.reb 21 (!(sEq x0 ByteArray.empty)) true hb rfl
     refine t_on rfl hE rfl rfl rfl ?_
     refine KH (v:=.string x0) rfl rfl hE rfl (KJ hE rfl) (fun a hE=>?_)
     refine t_on rfl hE rfl rfl rfl ?_
     refine Uy hE hR KAw rfl (KBm x0 (⟨#[10]⟩:ByteArray)) (M.unbind H) (fun Xx32 a w ea hR H=>?_)
     have hE:=Env.put_some hE rfl ea; clear ea
     refine t_on rfl hE rfl rfl rfl ?_
     refine KH (v:=.bool (!Xx32)) rfl rfl hE rfl (r_un hE rfl KK6) (fun a hE=>?_)
     refine KH rfl rfl hE rfl (Uo hE rfl rfl) (fun a hE=>?_)
     refine Ka ?_
     exact hKr _ _ _ (hE.cut (.cons rfl (.cons rfl (.cons rfl (.cons rfl Subs.nil))))) hR H
    ·replace H:=M.ite_f hb H
     have hE:=hE.reb 21 (!(sEq x0 ByteArray.empty)) false hb rfl
     refine zQ rfl hE rfl rfl rfl (fun a ea=>?_)
     have hE:=Env.put_some hE rfl ea; clear ea
     refine zQ rfl hE rfl rfl rfl (fun a ea=>?_)
     have hE:=Env.put_some hE rfl ea; clear ea
     refine zQ rfl hE rfl rfl rfl (fun a ea=>?_)
     have hE:=Env.put_some hE rfl ea; clear ea
     refine KH rfl rfl hE rfl (Jv hE rfl rfl) (fun a hE=>?_)
     refine Ka ?_
     exact hKr _ _ _ (hE.cut (.cons rfl (.cons rfl (.cons rfl (.cons rfl Subs.nil))))) hR H
   ·intro Xx31 a w hE hR H
    refine Ka ?_
    refine hK_30 _ _ ?_
    refine Jg Xx31 hE rfl (fun hb=>?_) (fun hb=>?_)
    ·replace H:=M.ite_t hb H
     refine Kc (fun K hK_33=>?_)
     refine KG ?_
     obtain ⟨Xx34,qXx34,H⟩:=H
     refine KH (v:=.int .i64 Xx34) rfl rfl hE rfl (Zk hE rfl sc3 qXx34) (fun a hE=>?_)
     obtain ⟨u_35,qu_35,H⟩:=H
     refine U0 rfl rfl hE hR (Zn hE rfl rfl sz3 qu_35) (fun a w hE hR hh=>?_)
     replace H:=M.at hh H; clear hh
     obtain ⟨u_36,qu_36,H⟩:=H
     refine U0 rfl rfl hE hR (Zn hE rfl rfl sz29 qu_36) (fun a w hE hR hh=>?_)
     replace H:=M.at hh H; clear hh
     refine Ka ?_
     refine hK_33 _ _ ?_
     refine Yv ?_
     refine hret _ _ _ _ _ hE hR (M.unbind H) (fun w hR H=>?_)
     obtain ⟨Rr37,qRr37,H⟩:=H
     obtain ⟨Rr38,qRr38,H⟩:=H
     exact ⟨(Rr37,Rr38),_,Jb hE rfl (RV.cell rfl sc3 qRr37 (RV.cell rfl sc29 qRr38 RV.nil)),rfl,H⟩
    ·replace H:=M.ite_f hb H
     refine Un ?_
     refine hK_29 _ _ ?_
     refine Kc (fun K hK_39=>?_)
     refine KG ?_
     obtain ⟨u_40,qu_40,H⟩:=H
     refine U0 rfl rfl hE hR (Zn hE rfl rfl sz3 qu_40) (fun a w hE hR hh=>?_)
     replace H:=M.at hh H; clear hh
     obtain ⟨u_41,qu_41,H⟩:=H
     refine U0 rfl rfl hE hR (Zn hE rfl rfl sz29 qu_41) (fun a w hE hR hh=>?_)
     replace H:=M.at hh H; clear hh
     refine Ka ?_
     refine hK_39 _ _ ?_
     refine Yv ?_
     refine hret _ _ _ _ _ hE hR (M.unbind H) (fun w hR H=>?_)
     obtain ⟨Rr42,qRr42,H⟩:=H
     obtain ⟨Rr43,qRr43,H⟩:=H
     exact ⟨(Rr42,Rr43),_,Jb hE rfl (RV.cell rfl sc3 qRr42 (RV.cell rfl sc29 qRr43 RV.nil)),rfl,H⟩
noncomputable def KGz:CalleeS Go.Proofs.Tryz.prog:=mkC KFg KFo [.S,.V] [.I .i64,.I .i64] (fun (t:ByteArray × Value)=>Y5 t.1 t.2) (fun (t:ByteArray × Value)=>KGy t.1 t.2)
def UF (self1:(Sl × Int × Int)→M (Sl)) (C16:Int) (Xx13:Sl) (Xx14:Int):M (Sl):=do
 self1 (Xx13,Xx14,IntKind.wrap .i64 (C16+1))
def UG (Xx23:Sl):M (Sl):=do
 M.pure Xx23
def Wf (C9:ByteArray) (self1:(Sl × Int × Int)→M (Sl)):(Sl × Int × Int)→M (Sl):=fun s=>match s with
 | (Xx6,Xx7,Xx8)=>do
  M.ite (decide (Xx8 < (C9.size:Int))) (do
   let Xx18←ixS C9 Xx8
   M.ite (Xx18 == 10) (do
    let Xx20←slS C9 Xx7 Xx8
    let Xx21←bdL JD 1 #[.string Xx20]
    let Xx22←apL JD 1 16 (#[.string ByteArray.empty]:Array Value) Xx6 Xx21
    UF self1 Xx8 Xx22 (IntKind.wrap .i64 (Xx8+1))
    ) (do
    UF self1 Xx8 Xx6 Xx7
    )
   ) (do
   M.ite (decide (Xx7 < (C9.size:Int))) (do
    let Xx26←slS C9 Xx7 C9.size
    let Xx27←bdL JD 1 #[.string Xx26]
    let Xx28←apL JD 1 16 (#[.string ByteArray.empty]:Array Value) Xx6 Xx27
    UG Xx28
    ) (do
    UG Xx6
    )
   )
def VE (x0:ByteArray):M (Sl):=do
 M.loop (Wf x0) (Sl.nil,0,0)
theorem KBn (x0:ByteArray):Ki Go.Proofs.Tryz.prog 102 #[.string x0] (fun (r:Sl)=>(r:Sl).v) (VE x0) :=
 KL [] [] [.L] [(0,.S x0)] (.q .o (.q .o (.q .o (.q (.q .o (.b (.l [(0,.S)] [(3,.L),(4,.I .i64),(5,.I .i64)] (fun (t:ByteArray)=>Wf t) (fun self1=>.q .o (.q .o (.j [(0,.S),(5,.I .i64),(3,.L),(4,.I .i64)] (fun (t:ByteArray × Int × Sl × Int)=>UF self1 t.2.1 t.2.2.1 t.2.2.2) .o)))))) (.q .o (.j [(3,.L)] (fun (t:Sl)=>UG t) .o)))))) Go.Proofs.Tryz.func102 rfl rfl ⟨rfl,trivial⟩ rfl (by kernel_rfl) (by kernel_rfl)
noncomputable def KBo:CalleeS Go.Proofs.Tryz.prog:=mkC KAc KAr [.S] [.L] (fun (t:ByteArray)=>VE t) (fun (t:ByteArray)=>KBn t)
def Z9 (x0:Int):M (Array Value):=do
 let Xx2←mkB KB (#[.int .i64 0,.int .i64 0,.string ByteArray.empty,.slice none 0 0]:Array Value)
 M.need ((#[.int .i64 1,.int .i64 x0,.string ByteArray.empty,.slice none 0 0]:Array Value).size=4)
 stG Xx2 (#[.int .i64 1,.int .i64 x0,.string ByteArray.empty,.slice none 0 0]:Array Value)
 let Rr5←ldG 4 Xx2
 M.pure Rr5
theorem KDY (x0:Int):Ki Go.Proofs.Tryz.prog 27 #[.int .i64 x0] (fun (r:Array Value)=>.agg r) (Z9 x0) :=
 KL [] [] [.G] [(0,.I .i64 x0)] .o Go.Proofs.Tryz.func27 rfl rfl ⟨rfl,trivial⟩ rfl (by kernel_rfl) (by kernel_rfl)
noncomputable def qR:CalleeS Go.Proofs.Tryz.prog:=mkC KCL KCW [.I .i64] [.G] (fun (t:Int)=>Z9 t) (fun (t:Int)=>KDY t)
def JA (x0:ByteArray):M (Array Value):=do
 let Xx2←mkB KB (#[.int .i64 0,.int .i64 0,.string ByteArray.empty,.slice none 0 0]:Array Value)
 M.need ((#[.int .i64 2,.int .i64 0,.string x0,.slice none 0 0]:Array Value).size=4)
 stG Xx2 (#[.int .i64 2,.int .i64 0,.string x0,.slice none 0 0]:Array Value)
 let Rr5←ldG 4 Xx2
 M.pure Rr5
theorem KDZ (x0:ByteArray):Ki Go.Proofs.Tryz.prog 29 #[.string x0] (fun (r:Array Value)=>.agg r) (JA x0) :=
 KL [] [] [.G] [(0,.S x0)] .o Go.Proofs.Tryz.func29 rfl rfl ⟨rfl,trivial⟩ rfl (by kernel_rfl) (by kernel_rfl)
noncomputable def qS:CalleeS Go.Proofs.Tryz.prog:=mkC KCM KCX [.S] [.G] (fun (t:ByteArray)=>JA t) (fun (t:ByteArray)=>KDZ t)
def Um (x0:Bool):M (Array Value):=do
 let Xx2←mkB KB (#[.int .i64 0,.int .i64 0,.string ByteArray.empty,.slice none 0 0]:Array Value)
 M.ite x0 (do
  M.need ((#[.int .i64 3,.int .i64 1,.string ByteArray.empty,.slice none 0 0]:Array Value).size=4)
  stG Xx2 (#[.int .i64 3,.int .i64 1,.string ByteArray.empty,.slice none 0 0]:Array Value)
  let Rr7←ldG 4 Xx2
  M.pure Rr7
  ) (do
  M.need ((#[.int .i64 3,.int .i64 0,.string ByteArray.empty,.slice none 0 0]:Array Value).size=4)
  stG Xx2 (#[.int .i64 3,.int .i64 0,.string ByteArray.empty,.slice none 0 0]:Array Value)
  let Rr10←ldG 4 Xx2
  M.pure Rr10
  )
theorem KCs (x0:Bool):Ki Go.Proofs.Tryz.prog 35 #[.bool x0] (fun (r:Array Value)=>.agg r) (Um x0) :=
 KL [] [] [.G] [(0,.B x0)] .o Go.Proofs.Tryz.func35 rfl rfl ⟨rfl,trivial⟩ rfl (by kernel_rfl) (by kernel_rfl)
noncomputable def KCt:CalleeS Go.Proofs.Tryz.prog:=mkC KBL KBV [.B] [.G] (fun (t:Bool)=>Um t) (fun (t:Bool)=>KCs t)
def KR (x0:Option Addr) (x1:Int):M (Unit):=do
 let Xx2←nilP x0
 let Xx3←ldI .i64 ((Xx2).add 2)
 M.ite (decide (Xx3 < 0)) (do
  let Xx4←nilP x0
  stV ((Xx4).add 2) (.int .i64 x1)
  M.pure ()
  ) (do
  M.pure ()
  )
theorem qA (x0:Option Addr) (x1:Int):Ki Go.Proofs.Tryz.prog 154 #[.pointer x0,.int .i64 x1] (fun (r:Unit)=>.tuple #[]) (KR x0 x1) :=
 KL [] [0,4,9] [] [(0,.P x0),(1,.I .i64 x1)] .o Go.Proofs.Tryz.func154 rfl rfl ⟨rfl,rfl,trivial⟩ rfl (by kernel_rfl) (by kernel_rfl)
noncomputable def Zf:CalleeS Go.Proofs.Tryz.prog:=mkC Na Ng [.P,.I .i64] [] (fun (t:Option Addr × Int)=>KR t.1 t.2) (fun (t:Option Addr × Int)=>qA t.1 t.2)
def Zw (C4:Option Addr) (Xx3:Bool):M (Int):=do
 M.ite Xx3 (do
  M.pure 0
  ) (do
  let Xx7←nilP C4
  let Xx8←nilP C4
  let Xx9←ldS ((Xx7).add 0)
  let Xx10←ldI .i64 ((Xx8).add 1)
  let Xx11←ixS Xx9 Xx10
  M.pure Xx11
  )
def KS (x0:Option Addr):M (Int):=do
 let Xx12←nilP x0
 let Xx13←ldI .i64 ((Xx12).add 2)
 M.ite (decide (Xx13 ≥ 0)) (do
  Zw x0 true
  ) (do
  let Xx15←nilP x0
  let Xx16←nilP x0
  let Xx17←ldI .i64 ((Xx15).add 1)
  let Xx18←ldS ((Xx16).add 0)
  Zw x0 (decide (Xx17 ≥ (Xx18.size:Int)))
  )
theorem qB (x0:Option Addr):Ki Go.Proofs.Tryz.prog 188 #[.pointer x0] (fun (r:Int)=>.int .u8 r) (KS x0) :=
 KL [] [0,3,9,13,20,24] [.I .u8] [(0,.P x0)] (.q .o (.q (.q (.r [0,1,2,4,8,16,32,96,160,288,32,1056,2080,4128,8224,16928,32800] [0,1,2,4,8,16,32,96,160,288,32,1056,2080,4128,8224,16928,32800] [0,1,3,7,15,31,63,127,255,511,63,1087,3135,7231,15423,32767,65535] (.pu 0 (.pu 1 (.pu 2 (.pu 3 (.pu 4 (.pu 5 (.g 5 (.of 6 (.of 7 (.of 8 (.of 9 (.of 10 (.of 11 (.of 12 (.of 13 (.of 14 (.of 15 (.pu 16 (.st [4,5,6,7,8,9,10,11,12,13,14,15,16] .dn)))))))))))) (.pu 6 (.pu 7 (.pu 8 (.pu 10 (.pu 11 (.pu 12 (.pu 9 (.pu 13 (.pu 14 (.pu 15 (.pu 16 (.st [15,16] .dn)))))))))))))))))))) (.j [(0,.P),(19,.B)] (fun (t:Option Addr × Bool)=>Zw t.1 t.2) .o)) (.q (.r [0,1,2,4,0,16,32,64,136,511] [0,1,2,4,0,16,32,64,136,256] [0,1,3,7,0,16,48,112,255,511] (.pu 0 (.pu 1 (.pu 2 (.pu 4 (.pu 5 (.pu 6 (.pu 3 (.pu 7 (.pu 8 (.pu 9 (.st [8,9] .dn)))))))))))) .o))) Go.Proofs.Tryz.func188 rfl rfl ⟨rfl,trivial⟩ rfl (by kernel_rfl) (by kernel_rfl)
noncomputable def Zg:CalleeS Go.Proofs.Tryz.prog:=mkC Nb Nh [.P] [.I .u8] (fun (t:Option Addr)=>KS t) (fun (t:Option Addr)=>qB t)
def Zv (x0:Int):M (Bool):=do
 let Xx3←M.ite (decide (x0 ≥ 48)) (do
  M.pure (decide (x0≤57))
  ) (do
  M.pure false
  )
 M.pure Xx3
theorem KBp (x0:Int):Ki Go.Proofs.Tryz.prog 189 #[.int .u8 x0] (fun (r:Bool)=>.bool r) (Zv x0) :=
 KL [] [] [.B] [(0,.I .u8 x0)] .o Go.Proofs.Tryz.func189 rfl rfl ⟨rfl,trivial⟩ rfl (by kernel_rfl) (by kernel_rfl)
noncomputable def YB:CalleeS Go.Proofs.Tryz.prog:=mkC KAZ KAn [.I .u8] [.B] (fun (t:Int)=>Zv t) (fun (t:Int)=>KBp t)
def Uu (x0:Bool) (x1:Int):M (Int):=do
 M.ite x0 (do
  M.pure (IntKind.wrap .i64 (IntKind.wrap .u64 (0 - x1)))
  ) (do
  M.pure (IntKind.wrap .i64 x1)
  )
theorem KA0 (x0:Bool) (x1:Int):Ki Go.Proofs.Tryz.prog 162 #[.bool x0,.int .u64 x1] (fun (r:Int)=>.int .i64 r) (Uu x0 x1) :=
 KL [] [] [.I .i64] [(0,.B x0),(1,.I .u64 x1)] .o Go.Proofs.Tryz.func162 rfl rfl ⟨rfl,rfl,trivial⟩ rfl (by kernel_rfl) (by kernel_rfl)
noncomputable def KA1:CalleeS Go.Proofs.Tryz.prog:=mkC zj zm [.B,.I .u64] [.I .i64] (fun (t:Bool × Int)=>Uu t.1 t.2) (fun (t:Bool × Int)=>KA0 t.1 t.2)
def Wg (C38:Bool) (C39:ByteArray) (C40:Int) (self2:(Int × Int)→M (Int × Int)):(Int × Int)→M (Int × Int):=fun s=>match s with
 | (Xx36,Xx37)=>do
  M.ite (decide (Xx37 < (C39.size:Int))) (do
   let Xx46←ixS C39 Xx37
   M.ite (decide (Xx36 > (IntKind.wrap .u64 (Int.tdiv (IntKind.wrap .u64 (C40 - (IntKind.wrap .u64 (IntKind.wrap .u8 (Xx46 - 48))))) 10)))) (do
    M.pure (0,7)
    ) (do
    self2 (IntKind.wrap .u64 ((IntKind.wrap .u64 (Xx36 * 10))+(IntKind.wrap .u64 (IntKind.wrap .u8 (Xx46 - 48)))),IntKind.wrap .i64 (Xx37+1))
    )
   ) (do
   let Xx51←Uu C38 Xx36
   M.pure (Xx51,0)
   )
def UH (C31:Bool) (C32:ByteArray) (Xx30:Int):M (Int × Int):=do
 M.loop (Wg C31 C32 Xx30) (0,0)
def Wh (C18:Bool) (C19:ByteArray) (self1:(Int)→M (Int × Int)):(Int)→M (Int × Int):=fun s=>match s with
 | Xx17=>do
  M.ite (decide (Xx17 < (C19.size:Int))) (do
   let Xx25←ixS C19 Xx17
   let Xx26←M.ite (decide (Xx25 < 48)) (do
    M.pure true
    ) (do
    let Xx27←ixS C19 Xx17
    M.pure (decide (Xx27 > 57))
    )
   M.ite Xx26 (do
    M.pure (0,10)
    ) (do
    self1 (IntKind.wrap .i64 (Xx17+1))
    )
   ) (do
   M.ite (!C18) (do
    UH C18 C19 (IntKind.wrap .u64 (9223372036854775808 - 1))
    ) (do
    UH C18 C19 9223372036854775808
    )
   )
def UI (C7:Bool) (Xx6:ByteArray):M (Int × Int):=do
 let Xx10←M.ite (sEq Xx6 ByteArray.empty) (do
  M.pure true
  ) (do
  let Xx11←ixS Xx6 0
  let Xx12←M.ite (Xx11 == 48) (do
   let Xx13←M.ite (decide ((Xx6.size:Int) > 1)) (do
    M.pure true
    ) (do
    M.pure C7
    )
   M.pure Xx13
   ) (do
   M.pure false
   )
  M.pure Xx12
  )
 M.ite Xx10 (do
  M.pure (0,10)
  ) (do
  M.loop (Wh C7 Xx6) 0
  )
def Jl (x0:ByteArray):M (Int × Int):=do
 let Xx3←M.ite (decide ((x0.size:Int) > 0)) (do
  let Xx4←ixS x0 0
  M.pure (Xx4 == 45)
  ) (do
  M.pure false
  )
 M.ite Xx3 (do
  let Xx54←slS x0 1 x0.size
  UI Xx3 Xx54
  ) (do
  UI Xx3 x0
  )
theorem KBq (x0:ByteArray):Ki Go.Proofs.Tryz.prog 116 #[.string x0] (fun (r:Int × Int)=>.tuple #[.int .i64 r.1,.int .i64 r.2]) (Jl x0) :=
 KL [KA1] [] [.I .i64,.I .i64] [(0,.S x0)] (.q .o (.q .o (.q .o (.q .o (.j [(4,.B),(5,.S)] (fun (t:Bool × ByteArray)=>UI t.1 t.2) (.q .o (.q (.q .o (.b (.l [(4,.B),(5,.S)] [(6,.I .i64)] (fun (t:Bool × ByteArray)=>Wh t.1 t.2) (fun _=>.o)))) (.q .o (.q .o (.j [(4,.B),(5,.S),(7,.I .u64)] (fun (t:Bool × ByteArray × Int)=>UH t.1 t.2.1 t.2.2) (.q .o (.q (.q .o (.b (.l [(4,.B),(5,.S),(7,.I .u64)] [(8,.I .u64),(9,.I .i64)] (fun (t:Bool × ByteArray × Int)=>Wg t.1 t.2.1 t.2.2) (fun _=>.o)))) .o)))))))))))) Go.Proofs.Tryz.func116 rfl rfl ⟨rfl,trivial⟩ rfl (by kernel_rfl) (by kernel_rfl)
noncomputable def NE:CalleeS Go.Proofs.Tryz.prog:=mkC KAV KAj [.S] [.I .i64,.I .i64] (fun (t:ByteArray)=>Jl t) (fun (t:ByteArray)=>KBq t)
def UN (C35:Option Addr) (C36:Int) (self1:(Unit)→M (Int)):(Unit)→M (Int):=fun s=>match s with
 | ()=>do
  let Xx40←KS C35
  let Xx41←Zv Xx40
  M.ite Xx41 (do
   let Xx44←nilP C35
   let Xx45←nilP C35
   let Xx46←ldS ((Xx44).add 0)
   let Xx47←ldI .i64 ((Xx45).add 1)
   let Xx48←slS Xx46 C36 (IntKind.wrap .i64 (Xx47+1))
   let Xx49←Jl Xx48
   M.ite (Xx49.2 != 0) (do
    let Xx52←nilP C35
    let Xx53←ldI .i64 ((Xx52).add 1)
    let Xx54←KR C35 Xx53
    M.pure 0
    ) (do
    let Xx56←nilP C35
    let Xx57←ldI .i64 ((Xx56).add 1)
    let Xx58←nilP C35
    stV ((Xx58).add 1) (.int .i64 (IntKind.wrap .i64 (Xx57+1)))
    self1 ()
    )
   ) (do
   let Xx61←nilP C35
   let Xx62←nilP C35
   let Xx63←ldS ((Xx61).add 0)
   let Xx64←ldI .i64 ((Xx62).add 1)
   let Xx65←slS Xx63 C36 Xx64
   let Xx66←Jl Xx65
   M.pure Xx66.1
   )
def ZS (C5:Option Addr) (C6:Int):M (Int):=do
 let Xx9←KS C5
 let Xx10←Zv Xx9
 M.ite (!Xx10) (do
  let Xx12←nilP C5
  let Xx13←ldI .i64 ((Xx12).add 1)
  let Xx14←KR C5 Xx13
  M.pure 0
  ) (do
  let Xx18←KS C5
  M.ite (Xx18 == 48) (do
   let Xx21←nilP C5
   let Xx22←ldI .i64 ((Xx21).add 1)
   M.ite (decide (Xx22 > C6)) (do
    let Xx24←nilP C5
    let Xx25←ldI .i64 ((Xx24).add 1)
    let Xx26←KR C5 Xx25
    M.pure 0
    ) (do
    let Xx29←nilP C5
    let Xx30←ldI .i64 ((Xx29).add 1)
    let Xx31←nilP C5
    stV ((Xx31).add 1) (.int .i64 (IntKind.wrap .i64 (Xx30+1)))
    M.pure 0
    )
   ) (do
   M.loop (UN C5 C6) ()
   )
  )
def ZF (x0:Option Addr) (x1:Bool):M (Int):=do
 let Xx3←nilP x0
 let Xx4←ldI .i64 ((Xx3).add 1)
 let Xx69←M.ite x1 (do
  let Xx70←KS x0
  M.pure (Xx70 == 45)
  ) (do
  M.pure false
  )
 M.ite Xx69 (do
  let Xx71←nilP x0
  let Xx72←ldI .i64 ((Xx71).add 1)
  let Xx73←nilP x0
  stV ((Xx73).add 1) (.int .i64 (IntKind.wrap .i64 (Xx72+1)))
  ZS x0 Xx4
  ) (do
  ZS x0 Xx4
  )
theorem NF (x0:Option Addr) (x1:Bool):Ki Go.Proofs.Tryz.prog 190 #[.pointer x0,.bool x1] (fun (r:Int)=>.int .i64 r) (ZF x0 x1) :=
 KL [NE,Zf,Zg,YB] [0,10,16,20,27,31,32,37,40,46,47,52,59,63,68,79,80,85,93,98] [.I .i64] [(0,.P x0),(1,.B x1)] (.q .o (.q .o (.q .o (.j [(0,.P),(5,.I .i64)] (fun (t:Option Addr × Int)=>ZS t.1 t.2) (.q .o (.q .o (.q (.b (.l [(0,.P),(5,.I .i64)] [] (fun (t:Option Addr × Int)=>UN t.1 t.2) (fun _=>.q .o (.b (.q (.q (.r [0,1,2,4,0,0,32,64,128,256,536,1024,2048,4096,4096,16383,65535] [0,1,2,4,0,0,32,64,128,256,536,1024,2048,4096,4096,8192,16384] [0,1,3,7,0,0,32,96,224,480,1023,2047,4095,8191,8191,16383,65535] (.pu 0 (.pu 1 (.pu 2 (.pu 4 (.pu 5 (.pu 6 (.pu 7 (.pu 3 (.pu 8 (.pu 9 (.pu 10 (.st [10,11,12,13,14,15,16] (.on 11 (.pu 12 (.pu 13 (.pu 14 (.pu 15 (.pu 16 (.nx .dn)))))))))))))))))))) .o) .o))))) (.q (.r [0,1,2,4,0,0,32,64,128,280,512,1024,2048,2048,8191,32767] [0,1,2,4,0,0,32,64,128,280,512,1024,2048,2048,4096,8192] [0,1,3,7,0,0,32,96,224,511,1023,2047,4095,4095,8191,32767] (.pu 0 (.pu 1 (.pu 2 (.pu 4 (.pu 5 (.pu 6 (.pu 7 (.pu 3 (.pu 8 (.pu 9 (.st [9,10,11,12,13,14,15] (.on 10 (.pu 11 (.pu 12 (.pu 13 (.pu 14 (.pu 15 (.nx .dn))))))))))))))))))) .o)))))))) Go.Proofs.Tryz.func190 rfl rfl ⟨rfl,rfl,trivial⟩ rfl (by kernel_rfl) (by kernel_rfl)
noncomputable def NG:CalleeS Go.Proofs.Tryz.prog:=mkC GJ GQ [.P,.B] [.I .i64] (fun (t:Option Addr × Bool)=>ZF t.1 t.2) (fun (t:Option Addr × Bool)=>NF t.1 t.2)
def ZM (self1:(Int)→M (Unit)) (C11:Option Addr) (C13:Int) (Xx10:Bool):M (Unit):=do
 M.ite Xx10 (do
  let Xx15←nilP C11
  let Xx16←ldI .i64 ((Xx15).add 1)
  let Xx17←KR C11 Xx16
  M.pure ()
  ) (do
  let Xx18←nilP C11
  let Xx19←ldI .i64 ((Xx18).add 1)
  let Xx20←nilP C11
  stV ((Xx20).add 1) (.int .i64 (IntKind.wrap .i64 (Xx19+1)))
  self1 (IntKind.wrap .i64 (C13+1))
  )
def Jf (C3:Option Addr) (C4:ByteArray) (self1:(Int)→M (Unit)):(Int)→M (Unit):=fun s=>match s with
 | Xx2=>do
  M.ite (decide (Xx2 < (C4.size:Int))) (do
   let Xx22←ixS C4 Xx2
   let Xx23←KS C3
   M.ite (Xx23 != Xx22) (do
    ZM self1 C3 Xx2 true
    ) (do
    let Xx25←nilP C3
    let Xx26←nilP C3
    let Xx27←ldI .i64 ((Xx25).add 1)
    let Xx28←ldS ((Xx26).add 0)
    ZM self1 C3 Xx2 (decide (Xx27 ≥ (Xx28.size:Int)))
    )
   ) (do
   M.pure ()
   )
def KQ (x0:Option Addr) (x1:ByteArray):M (Unit):=do
 M.loop (Jf x0 x1) 0
theorem qC (x0:Option Addr) (x1:ByteArray):Ki Go.Proofs.Tryz.prog 192 #[.pointer x0,.string x1] (fun (r:Unit)=>.tuple #[]) (KQ x0 x1) :=
 KL [Zf,Zg] [0,11,18,22,29,30,35] [] [(0,.P x0),(1,.S x1)] (.q .o (.b (.l [(0,.P),(1,.S)] [(4,.I .i64)] (fun (t:Option Addr × ByteArray)=>Jf t.1 t.2) (fun self1=>.q .o (.q (.b (.q (.q (.r [0,1,0,0,12,18,34,64,192,320,576,64,2112,4160,8256,16448,33856,65600] [0,1,0,0,12,18,32,64,192,320,576,64,2112,4160,8256,16448,33856,65600] [0,1,0,0,12,31,63,127,255,511,1023,127,2175,6271,14463,30847,65535,131071] (.pu 0 (.pu 2 (.pu 3 (.pu 4 (.st [0,1,2,3,4,5,6,7,8,9,10,11,12,13,14,15,16,17] (.on 1 (.pu 5 (.pu 6 (.g 6 (.of 7 (.of 8 (.of 9 (.of 10 (.of 11 (.of 12 (.of 13 (.of 14 (.of 15 (.of 16 (.pu 17 (.nx .dn)))))))))))) (.pu 7 (.pu 8 (.pu 9 (.pu 11 (.pu 12 (.pu 13 (.pu 10 (.pu 14 (.pu 15 (.pu 16 (.pu 17 (.st [16,17] .dn)))))))))))))))))))))) (.j [(0,.P),(1,.S),(4,.I .i64),(28,.B)] (fun (t:Option Addr × ByteArray × Int × Bool)=>ZM self1 t.1 t.2.2.1 t.2.2.2) .o)) .o)) .o))))) Go.Proofs.Tryz.func192 rfl rfl ⟨rfl,rfl,trivial⟩ rfl (by kernel_rfl) (by kernel_rfl)
noncomputable def Jx:CalleeS Go.Proofs.Tryz.prog:=mkC Nc Nj [.P,.S] [] (fun (t:Option Addr × ByteArray)=>KQ t.1 t.2) (fun (t:Option Addr × ByteArray)=>qC t.1 t.2)
def UX (x0:Int):M (Int):=do
 let Xx4←Zv x0
 M.ite Xx4 (do
  M.pure (IntKind.wrap .i64 (IntKind.wrap .u8 (x0 - 48)))
  ) (do
  let Xx7←M.ite (decide (x0 ≥ 97)) (do
   M.pure (decide (x0≤102))
   ) (do
   M.pure false
   )
  M.ite Xx7 (do
   M.pure (IntKind.wrap .i64 ((IntKind.wrap .i64 (IntKind.wrap .u8 (x0 - 97)))+10))
   ) (do
   M.pure (-1)
   )
  )
theorem KDa (x0:Int):Ki Go.Proofs.Tryz.prog 246 #[.int .u8 x0] (fun (r:Int)=>.int .i64 r) (UX x0) :=
 KL [YB] [] [.I .i64] [(0,.I .u8 x0)] .o Go.Proofs.Tryz.func246 rfl rfl ⟨rfl,trivial⟩ rfl (by kernel_rfl) (by kernel_rfl)
noncomputable def KDb:CalleeS Go.Proofs.Tryz.prog:=mkC KCN KCZ [.I .u8] [.I .i64] (fun (t:Int)=>UX t) (fun (t:Int)=>KDa t)
def Zx (x0:Option Addr):M (Int):=do
 let Xx3←KS x0
 let Xx6←M.ite (Xx3 == 39) (do
  M.pure true
  ) (do
  M.pure (Xx3 == 92)
  )
 M.ite Xx6 (do
  let Xx8←nilP x0
  let Xx9←ldI .i64 ((Xx8).add 1)
  let Xx10←nilP x0
  stV ((Xx10).add 1) (.int .i64 (IntKind.wrap .i64 (Xx9+1)))
  M.pure Xx3
  ) (do
  let Xx14←KQ x0 (⟨#[120]⟩:ByteArray)
  let Xx16←KS x0
  let Xx17←UX Xx16
  let Xx20←M.ite (decide (Xx17 < 0)) (do
   M.pure true
   ) (do
   let Xx21←M.ite (decide (Xx17 ≥ 2)) (do
    M.pure (decide (Xx17 < 7))
    ) (do
    M.pure false
    )
   M.pure Xx21
   )
  M.ite Xx20 (do
   let Xx23←nilP x0
   let Xx24←ldI .i64 ((Xx23).add 1)
   let Xx25←KR x0 Xx24
   M.pure 0
   ) (do
   let Xx28←nilP x0
   let Xx29←ldI .i64 ((Xx28).add 1)
   let Xx30←nilP x0
   stV ((Xx30).add 1) (.int .i64 (IntKind.wrap .i64 (Xx29+1)))
   let Xx33←KS x0
   let Xx34←UX Xx33
   let Xx37←M.ite (decide (Xx34 < 0)) (do
    M.pure true
    ) (do
    let Xx38←M.ite (Xx17 == 7) (do
     M.pure (Xx34 != 15)
     ) (do
     M.pure false
     )
    M.pure Xx38
    )
   M.ite Xx37 (do
    let Xx40←nilP x0
    let Xx41←ldI .i64 ((Xx40).add 1)
    let Xx42←KR x0 Xx41
    M.pure 0
    ) (do
    let Xx45←nilP x0
    let Xx46←ldI .i64 ((Xx45).add 1)
    let Xx47←nilP x0
    stV ((Xx47).add 1) (.int .i64 (IntKind.wrap .i64 (Xx46+1)))
    M.pure (IntKind.wrap .u8 (IntKind.wrap .i64 ((IntKind.wrap .i64 (16 * Xx17))+Xx34)))
    )
   )
  )
theorem GT (x0:Option Addr):Ki Go.Proofs.Tryz.prog 224 #[.pointer x0] (fun (r:Int)=>.int .u8 r) (Zx x0) :=
 KL [Zf,Zg,Jx,KDb] [0,6,14,22,24,37,38,43,50,63,64,69] [.I .u8] [(0,.P x0)] .o Go.Proofs.Tryz.func224 rfl rfl ⟨rfl,trivial⟩ rfl (by kernel_rfl) (by kernel_rfl)
noncomputable def GU:CalleeS Go.Proofs.Tryz.prog:=mkC Xo Xx [.P] [.I .u8] (fun (t:Option Addr)=>Zx t) (fun (t:Option Addr)=>GT t)
def ZP (self1:(Sl)→M (ByteArray)) (C16:Option Addr) (C17:Sl) (C18:Int) (Xx15:Bool):M (ByteArray):=do
 M.ite Xx15 (do
  let Xx19←nilP C16
  let Xx20←ldI .i64 ((Xx19).add 1)
  let Xx21←KR C16 Xx20
  self1 C17
  ) (do
  M.ite (C18 == 39) (do
   let Xx24←nilP C16
   let Xx25←ldI .i64 ((Xx24).add 1)
   let Xx26←nilP C16
   stV ((Xx26).add 1) (.int .i64 (IntKind.wrap .i64 (Xx25+1)))
   let Xx29←b2s C17
   M.pure Xx29
   ) (do
   M.ite (C18 == 92) (do
    let Xx32←nilP C16
    let Xx33←ldI .i64 ((Xx32).add 1)
    let Xx34←nilP C16
    stV ((Xx34).add 1) (.int .i64 (IntKind.wrap .i64 (Xx33+1)))
    let Xx36←Zx C16
    let Xx37←bdL KY 1 #[.int .u8 Xx36]
    let Xx38←apL KY 1 1 (#[.int .u8 0]:Array Value) C17 Xx37
    self1 Xx38
    ) (do
    let Xx40←nilP C16
    let Xx41←ldI .i64 ((Xx40).add 1)
    let Xx42←nilP C16
    stV ((Xx42).add 1) (.int .i64 (IntKind.wrap .i64 (Xx41+1)))
    let Xx44←bdL KY 1 #[.int .u8 C18]
    let Xx45←apL KY 1 1 (#[.int .u8 0]:Array Value) C17 Xx44
    self1 Xx45
    )
   )
  )
def Jy (C7:Option Addr) (self1:(Sl)→M (ByteArray)):(Sl)→M (ByteArray):=fun s=>match s with
 | Xx6=>do
  let Xx11←nilP C7
  let Xx12←ldI .i64 ((Xx11).add 2)
  M.ite (decide (Xx12 < 0)) (do
   let Xx14←KS C7
   let Xx46←nilP C7
   let Xx47←nilP C7
   let Xx48←ldI .i64 ((Xx46).add 1)
   let Xx49←ldS ((Xx47).add 0)
   M.ite (decide (Xx48 ≥ (Xx49.size:Int))) (do
    ZP self1 C7 Xx6 Xx14 true
    ) (do
    M.ite (decide (Xx14 < 32)) (do
     ZP self1 C7 Xx6 Xx14 true
     ) (do
     ZP self1 C7 Xx6 Xx14 (decide (Xx14 > 126))
     )
    )
   ) (do
   M.pure ByteArray.empty
   )
def Ji (x0:Option Addr):M (ByteArray):=do
 let Xx4←KQ x0 (⟨#[39]⟩:ByteArray)
 M.loop (Jy x0) Sl.nil
theorem qT (x0:Option Addr):Ki Go.Proofs.Tryz.prog 191 #[.pointer x0] (fun (r:ByteArray)=>.string r) (Ji x0) :=
 KL [Zf,Zg,Jx,GU] [0,5,7,12,14,26,30,44,45,53,65,73] [.S] [(0,.P x0)] (.q .o (.q .o (.q .o (.q (.b (.l [(0,.P)] [(3,.L)] (fun (t:Option Addr)=>Jy t) (fun self1=>.q .o (.b (.q .o (.b (.q (.r [0,1,2,4,0,16,32,64,128,264,512,1024,3072,5120,9216,16384,49152,81920,147456] [0,1,2,4,0,16,32,64,128,264,512,1024,3072,5120,8192,16384,49152,81920,131072] [0,1,3,7,0,16,48,112,240,511,1023,2047,4095,8191,16383,32767,65535,131071,262143] (.pu 0 (.pu 1 (.pu 2 (.pu 4 (.pu 5 (.pu 6 (.pu 3 (.pu 7 (.pu 8 (.pu 9 (.pu 10 (.g 10 (.of 11 (.of 12 (.pu 13 (.pu 14 (.of 15 (.of 16 (.pu 17 (.pu 18 (.st [9,10,11,12,13,14,15,16,17,18] .dn))))))))) (.pu 11 (.pu 12 (.pu 13 (.pu 14 (.g 14 (.of 15 (.of 16 (.pu 17 (.pu 18 (.st [9,10,11,12,13,14,15,16,17,18] .dn))))) (.pu 15 (.pu 16 (.pu 17 (.pu 18 (.st [9,10,11,12,13,14,15,16,17,18] .dn))))))))))))))))))))))) (.j [(0,.P),(3,.L),(4,.I .u8),(25,.B)] (fun (t:Option Addr × Sl × Int × Bool)=>ZP self1 t.1 t.2.1 t.2.2.1 t.2.2.2) .o)))))))) .o)))) Go.Proofs.Tryz.func191 rfl rfl ⟨rfl,trivial⟩ rfl (by kernel_rfl) (by kernel_rfl)
noncomputable def qU:CalleeS Go.Proofs.Tryz.prog:=mkC N3 N6 [.P] [.S] (fun (t:Option Addr)=>Ji t) (fun (t:Option Addr)=>qT t)
end Gx
