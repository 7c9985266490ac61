/- Printed by program: Go functions as Lean programs, each tied to its code. No condition. -/
import Derived.Test.YthelieedlghccaaGreatDoorP0
import Derived.Test.YthelieedlghccaaGreatDoorP1
import Derived.Test.YthelieedlghccaaGreatDoorP2
import Derived.Test.YthelieedlghccaaGreatDoorProg
import Derived.KernelRfl
import Derived.Lib.AtoiErrMem
import Derived.Shelf.Small.Bits
import Derived.Shelf.Small.Strs
import Derived.Shelf.Strconv.Itoa3
import Derived.Shelf.Strconv.ParseInt10All
import Derived.Shelf.Strings.Builder1
import Derived.Shelf.Strings.Search1
import Derived.Shelf.Strings.Search2
import Derived.Shelf.Strings.SlTrimAscii
set_option linter.unusedVariables false
set_option linter.unusedSimpArgs false
namespace Gx
open Go
abbrev zK:Nat:=70
abbrev N2:Nat:=71
abbrev KCw:Nat:=69
abbrev KA3:Nat:=125
abbrev zL:Nat:=126
abbrev Wb:Nat:=127
abbrev YV:Nat:=243
abbrev Jk:Nat:=198
abbrev XD:Nat:=201
abbrev Yp:Nat:=248
abbrev Wv:Nat:=229
abbrev YW:Nat:=230
abbrev Ww:Nat:=249
abbrev Yq:Nat:=247
abbrev Yr:Nat:=228
abbrev X9:Nat:=227
abbrev Ys:Nat:=253
abbrev Wc:Nat:=194
abbrev zM:Nat:=217
abbrev Xy:Nat:=250
abbrev XE:Nat:=259
abbrev KDu:Nat:=114
abbrev KB4:Nat:=160
abbrev KGQ:Nat:=87
abbrev KEs:Nat:=109
abbrev KEt:Nat:=141
abbrev N3:Nat:=14
abbrev zN:Nat:=142
abbrev zO:Nat:=88
abbrev UA:Nat:=38
abbrev zP:Nat:=27
abbrev zQ:Nat:=45
abbrev zR:Nat:=43
abbrev qX:Nat:=47
abbrev qY:Nat:=19
abbrev zS:Nat:=41
abbrev qZ:Nat:=90
abbrev NZ:Nat:=93
abbrev zT:Nat:=85
abbrev qa:Nat:=86
abbrev Ue:Nat:=135
abbrev Vi:Nat:=78
abbrev Jb:Nat:=136
abbrev Vj:Nat:=21
abbrev Yt:Nat:=77
abbrev JB:Nat:=73
abbrev VW:Nat:=82
abbrev Uk:Nat:=128
abbrev WV:Nat:=159
abbrev Vt:Nat:=138
abbrev U3:Nat:=169
abbrev YF:Nat:=200
abbrev VH:Nat:=91
abbrev VI:Nat:=89
abbrev UC:Nat:=79
abbrev Uu:Nat:=178
abbrev WG:Nat:=220
abbrev WH:Nat:=137
abbrev VX:Nat:=244
abbrev Kz:Nat:=179
abbrev N4:Nat:=156
abbrev qd:Nat:=161
abbrev N5:Nat:=234
abbrev Gl:Nat:=235
abbrev Na:Nat:=233
abbrev NG:Nat:=232
abbrev zU:Nat:=202
abbrev Gm:Nat:=177
abbrev GA:Nat:=97
abbrev XF:Nat:=96
abbrev YX:Nat:=95
abbrev Jy:Nat:=150
abbrev Gn:Nat:=219
abbrev zV:Nat:=72
abbrev KBU:Nat:=134
abbrev KBV:Nat:=92
abbrev KCx:Nat:=34
abbrev KB5:Nat:=16
abbrev YR:Nat:=39
abbrev Jl:Nat:=13
abbrev KDv:Nat:=26
abbrev KDw:Nat:=20
abbrev qL:Nat:=80
abbrev KDx:Nat:=44
abbrev KDy:Nat:=42
abbrev KCy:Nat:=46
abbrev KB6:Nat:=17
abbrev KCz:Nat:=15
abbrev KDz:Nat:=28
abbrev KD0:Nat:=40
abbrev KC0:Nat:=18
abbrev KC1:Nat:=81
abbrev KD1:Nat:=74
abbrev KB7:Nat:=129
abbrev KB8:Nat:=133
abbrev XG:Nat:=75
abbrev Y6:Nat:=176
abbrev VJ:Nat:=131
abbrev XH:Nat:=76
abbrev KEu:Nat:=221
abbrev J4:Nat:=155
abbrev YG:Nat:=246
abbrev KB:Nat:=24
abbrev KBW:Nat:=4
abbrev Nb:Nat:=3
abbrev U9:Nat:=2
abbrev Kk:Nat:=225
abbrev UP:Nat:=228
abbrev Ze:Nat:=22
abbrev X5:Nat:=89
abbrev qe:Nat:=249
abbrev GM:Nat:=9
abbrev JH:Nat:=109
abbrev ZG:Nat:=5
abbrev Xa:Nat:=146
abbrev JF:Nat:=142
theorem mo:Go.Proofs.Tryz.prog.follows .mixedOrders=true:=by kernel_rfl
theorem un22:Go.Proofs.Tryz.prog.underlying 22=some (.slice 24):=by kernel_rfl
theorem un3:Go.Proofs.Tryz.prog.underlying 3=some (.int .i64):=by kernel_rfl
theorem un35:Go.Proofs.Tryz.prog.underlying 35=some (.slice 5):=by kernel_rfl
theorem un5:Go.Proofs.Tryz.prog.underlying 5=some (.int .u8):=by kernel_rfl
theorem un89:Go.Proofs.Tryz.prog.underlying 89=some (.slice 22):=by kernel_rfl
theorem un9:Go.Proofs.Tryz.prog.underlying 9=some (.string):=by kernel_rfl
theorem KMH:((Go.Proofs.Tryz.prog.info? 142).bind (·.zero))=some (.agg (#[.int .i64 0]:Array Value)):=by kernel_rfl
theorem zr22:((Go.Proofs.Tryz.prog.info? 22).bind (·.zero))=some (.slice none 0 0):=by kernel_rfl
theorem zr24:((Go.Proofs.Tryz.prog.info? 24).bind (·.zero))=some (.agg (#[.int .i64 0,.int .i64 0,.string ByteArray.empty,.slice none 0 0]:Array Value)):=by kernel_rfl
theorem zr3:((Go.Proofs.Tryz.prog.info? 3).bind (·.zero))=some (.int .i64 0):=by kernel_rfl
theorem zr5:((Go.Proofs.Tryz.prog.info? 5).bind (·.zero))=some (.int .u8 0):=by kernel_rfl
theorem ag24:agB Go.Proofs.Tryz.prog 24 4=true:=by kernel_rfl
theorem ap22:apB Go.Proofs.Tryz.prog 22 24 4 56 (#[.int .i64 0,.int .i64 0,.string ByteArray.empty,.slice none 0 0]:Array Value):=⟨un22,NV (by kernel_rfl)⟩
theorem ap35:apB Go.Proofs.Tryz.prog 35 5 1 1 (#[.int .u8 0]:Array Value):=⟨un35,NV (by kernel_rfl)⟩
theorem ap89:apB Go.Proofs.Tryz.prog 89 22 1 24 (#[.slice none 0 0]:Array Value):=⟨un89,NV (by kernel_rfl)⟩
theorem bd24:∀ w,(Instr.build 24 #[]).run Go.Proofs.Tryz.prog w=.ok (.agg (#[.int .i64 0,.int .i64 0,.string ByteArray.empty,.slice none 0 0]:Array Value)) w:=fun w=>by kernel_rfl
theorem zW:Callee? Go.Proofs.Tryz.prog 70:=KD Go.Proofs.Tryz.func70 (by kernel_rfl) rfl
theorem N6:Callee? Go.Proofs.Tryz.prog 71:=KD Go.Proofs.Tryz.func71 (by kernel_rfl) rfl
theorem KC2:Callee? Go.Proofs.Tryz.prog 69:=KD Go.Proofs.Tryz.func69 (by kernel_rfl) rfl
theorem KA4:Callee? Go.Proofs.Tryz.prog 125:=KD Go.Proofs.Tryz.func125 (by kernel_rfl) rfl
theorem zX:Callee? Go.Proofs.Tryz.prog 126:=KD Go.Proofs.Tryz.func126 (by kernel_rfl) rfl
theorem Wd:Callee? Go.Proofs.Tryz.prog 127:=KD Go.Proofs.Tryz.func127 (by kernel_rfl) rfl
theorem Yu:Callee? Go.Proofs.Tryz.prog 198:=KD Go.Proofs.Tryz.func198 (by kernel_rfl) rfl
theorem XI:Callee? Go.Proofs.Tryz.prog 201:=KD Go.Proofs.Tryz.func201 (by kernel_rfl) rfl
theorem Yv:Callee? Go.Proofs.Tryz.prog 248:=KD Go.Proofs.Tryz.func248 (by kernel_rfl) rfl
theorem Wx:Callee? Go.Proofs.Tryz.prog 229:=KD Go.Proofs.Tryz.func229 (by kernel_rfl) rfl
theorem YY:Callee? Go.Proofs.Tryz.prog 230:=KD Go.Proofs.Tryz.func230 (by kernel_rfl) rfl
theorem Wy:Callee? Go.Proofs.Tryz.prog 249:=KD Go.Proofs.Tryz.func249 (by kernel_rfl) rfl
theorem Yw:Callee? Go.Proofs.Tryz.prog 247:=KD Go.Proofs.Tryz.func247 (by kernel_rfl) rfl
theorem Yx:Callee? Go.Proofs.Tryz.prog 228:=KD Go.Proofs.Tryz.func228 (by kernel_rfl) rfl
theorem GB:Callee? Go.Proofs.Tryz.prog 227:=KD Go.Proofs.Tryz.func227 (by kernel_rfl) rfl
theorem Yy:Callee? Go.Proofs.Tryz.prog 253:=KD Go.Proofs.Tryz.func253 (by kernel_rfl) rfl
theorem We:Callee? Go.Proofs.Tryz.prog 194:=KD Go.Proofs.Tryz.func194 (by kernel_rfl) rfl
theorem zY:Callee? Go.Proofs.Tryz.prog 217:=KD Go.Proofs.Tryz.func217 (by kernel_rfl) rfl
theorem Xz:Callee? Go.Proofs.Tryz.prog 250:=KD Go.Proofs.Tryz.func250 (by kernel_rfl) rfl
theorem XJ:Callee? Go.Proofs.Tryz.prog 259:=KD Go.Proofs.Tryz.func259 (by kernel_rfl) rfl
theorem KD2:Callee? Go.Proofs.Tryz.prog 114:=KD Go.Proofs.Tryz.func114 (by kernel_rfl) rfl
theorem KB9:Callee? Go.Proofs.Tryz.prog 160:=KD Go.Proofs.Tryz.func160 (by kernel_rfl) rfl
theorem KGR:Callee? Go.Proofs.Tryz.prog 87:=KD Go.Proofs.Tryz.func87 (by kernel_rfl) rfl
theorem KEv:Callee? Go.Proofs.Tryz.prog 109:=KD Go.Proofs.Tryz.func109 (by kernel_rfl) rfl
theorem KEw:Callee? Go.Proofs.Tryz.prog 141:=KD Go.Proofs.Tryz.func141 (by kernel_rfl) rfl
theorem N7:Callee? Go.Proofs.Tryz.prog 14:=KD Go.Proofs.Tryz.func14 (by kernel_rfl) rfl
theorem zZ:Callee? Go.Proofs.Tryz.prog 142:=KD Go.Proofs.Tryz.func142 (by kernel_rfl) rfl
theorem za:Callee? Go.Proofs.Tryz.prog 88:=KD Go.Proofs.Tryz.func88 (by kernel_rfl) rfl
theorem W9:Callee? Go.Proofs.Tryz.prog 38:=KD Go.Proofs.Tryz.func38 (by kernel_rfl) rfl
theorem zb:Callee? Go.Proofs.Tryz.prog 27:=KD Go.Proofs.Tryz.func27 (by kernel_rfl) rfl
theorem zc:Callee? Go.Proofs.Tryz.prog 45:=KD Go.Proofs.Tryz.func45 (by kernel_rfl) rfl
theorem zd:Callee? Go.Proofs.Tryz.prog 43:=KD Go.Proofs.Tryz.func43 (by kernel_rfl) rfl
theorem qf:Callee? Go.Proofs.Tryz.prog 47:=KD Go.Proofs.Tryz.func47 (by kernel_rfl) rfl
theorem qg:Callee? Go.Proofs.Tryz.prog 19:=KD Go.Proofs.Tryz.func19 (by kernel_rfl) rfl
theorem ze:Callee? Go.Proofs.Tryz.prog 41:=KD Go.Proofs.Tryz.func41 (by kernel_rfl) rfl
theorem qh:Callee? Go.Proofs.Tryz.prog 90:=KD Go.Proofs.Tryz.func90 (by kernel_rfl) rfl
theorem Nc:Callee? Go.Proofs.Tryz.prog 93:=KD Go.Proofs.Tryz.func93 (by kernel_rfl) rfl
theorem zf:Callee? Go.Proofs.Tryz.prog 85:=KD Go.Proofs.Tryz.func85 (by kernel_rfl) rfl
theorem qj:Callee? Go.Proofs.Tryz.prog 86:=KD Go.Proofs.Tryz.func86 (by kernel_rfl) rfl
theorem Uf:Callee? Go.Proofs.Tryz.prog 135:=KD Go.Proofs.Tryz.func135 (by kernel_rfl) rfl
theorem Vk:Callee? Go.Proofs.Tryz.prog 78:=KD Go.Proofs.Tryz.func78 (by kernel_rfl) rfl
theorem VK:Callee? Go.Proofs.Tryz.prog 136:=KD Go.Proofs.Tryz.func136 (by kernel_rfl) rfl
theorem Vm:Callee? Go.Proofs.Tryz.prog 21:=KD Go.Proofs.Tryz.func21 (by kernel_rfl) rfl
theorem Yz:Callee? Go.Proofs.Tryz.prog 77:=KD Go.Proofs.Tryz.func77 (by kernel_rfl) rfl
theorem JC:Callee? Go.Proofs.Tryz.prog 73:=KD Go.Proofs.Tryz.func73 (by kernel_rfl) rfl
theorem VY:Callee? Go.Proofs.Tryz.prog 82:=KD Go.Proofs.Tryz.func82 (by kernel_rfl) rfl
theorem Ul:Callee? Go.Proofs.Tryz.prog 128:=KD Go.Proofs.Tryz.func128 (by kernel_rfl) rfl
theorem WW:Callee? Go.Proofs.Tryz.prog 159:=KD Go.Proofs.Tryz.func159 (by kernel_rfl) rfl
theorem Vu:Callee? Go.Proofs.Tryz.prog 138:=KD Go.Proofs.Tryz.func138 (by kernel_rfl) rfl
theorem U4:Callee? Go.Proofs.Tryz.prog 169:=KD Go.Proofs.Tryz.func169 (by kernel_rfl) rfl
theorem YH:Callee? Go.Proofs.Tryz.prog 200:=KD Go.Proofs.Tryz.func200 (by kernel_rfl) rfl
theorem VL:Callee? Go.Proofs.Tryz.prog 91:=KD Go.Proofs.Tryz.func91 (by kernel_rfl) rfl
theorem VM:Callee? Go.Proofs.Tryz.prog 89:=KD Go.Proofs.Tryz.func89 (by kernel_rfl) rfl
theorem UD:Callee? Go.Proofs.Tryz.prog 79:=KD Go.Proofs.Tryz.func79 (by kernel_rfl) rfl
theorem Uv:Callee? Go.Proofs.Tryz.prog 178:=KD Go.Proofs.Tryz.func178 (by kernel_rfl) rfl
theorem WI:Callee? Go.Proofs.Tryz.prog 220:=KD Go.Proofs.Tryz.func220 (by kernel_rfl) rfl
theorem WJ:Callee? Go.Proofs.Tryz.prog 137:=KD Go.Proofs.Tryz.func137 (by kernel_rfl) rfl
theorem VZ:Callee? Go.Proofs.Tryz.prog 244:=KD Go.Proofs.Tryz.func244 (by kernel_rfl) rfl
theorem Jo:Callee? Go.Proofs.Tryz.prog 179:=KD Go.Proofs.Tryz.func179 (by kernel_rfl) rfl
theorem N8:Callee? Go.Proofs.Tryz.prog 156:=KD Go.Proofs.Tryz.func156 (by kernel_rfl) rfl
theorem qk:Callee? Go.Proofs.Tryz.prog 161:=KD Go.Proofs.Tryz.func161 (by kernel_rfl) rfl
theorem N9:Callee? Go.Proofs.Tryz.prog 234:=KD Go.Proofs.Tryz.func234 (by kernel_rfl) rfl
theorem Gp:Callee? Go.Proofs.Tryz.prog 235:=KD Go.Proofs.Tryz.func235 (by kernel_rfl) rfl
theorem Nd:Callee? Go.Proofs.Tryz.prog 233:=KD Go.Proofs.Tryz.func233 (by kernel_rfl) rfl
theorem NH:Callee? Go.Proofs.Tryz.prog 232:=KD Go.Proofs.Tryz.func232 (by kernel_rfl) rfl
theorem zg:Callee? Go.Proofs.Tryz.prog 202:=KD Go.Proofs.Tryz.func202 (by kernel_rfl) rfl
theorem Gq:Callee? Go.Proofs.Tryz.prog 177:=KD Go.Proofs.Tryz.func177 (by kernel_rfl) rfl
theorem GC:Callee? Go.Proofs.Tryz.prog 97:=KD Go.Proofs.Tryz.func97 (by kernel_rfl) rfl
theorem XK:Callee? Go.Proofs.Tryz.prog 96:=KD Go.Proofs.Tryz.func96 (by kernel_rfl) rfl
theorem YZ:Callee? Go.Proofs.Tryz.prog 95:=KD Go.Proofs.Tryz.func95 (by kernel_rfl) rfl
theorem Jz:Callee? Go.Proofs.Tryz.prog 150:=KD Go.Proofs.Tryz.func150 (by kernel_rfl) rfl
theorem Gr:Callee? Go.Proofs.Tryz.prog 219:=KD Go.Proofs.Tryz.func219 (by kernel_rfl) rfl
theorem zh:Callee? Go.Proofs.Tryz.prog 72:=KD Go.Proofs.Tryz.func72 (by kernel_rfl) rfl
theorem Y7:Callee? Go.Proofs.Tryz.prog 242:=KD Go.Proofs.Tryz.func242 (by kernel_rfl) rfl
theorem KBX:Callee? Go.Proofs.Tryz.prog 134:=KD Go.Proofs.Tryz.func134 (by kernel_rfl) rfl
theorem KBY:Callee? Go.Proofs.Tryz.prog 92:=KD Go.Proofs.Tryz.func92 (by kernel_rfl) rfl
theorem Gt:Callee? Go.Proofs.Tryz.prog 34:=KD Go.Proofs.Tryz.func34 (by kernel_rfl) rfl
theorem KCA:Callee? Go.Proofs.Tryz.prog 16:=KD Go.Proofs.Tryz.func16 (by kernel_rfl) rfl
theorem qM:Callee? Go.Proofs.Tryz.prog 39:=KD Go.Proofs.Tryz.func39 (by kernel_rfl) rfl
theorem Y0:Callee? Go.Proofs.Tryz.prog 13:=KD Go.Proofs.Tryz.func13 (by kernel_rfl) rfl
theorem KAu:Callee? Go.Proofs.Tryz.prog 26:=KD Go.Proofs.Tryz.func26 (by kernel_rfl) rfl
theorem KD3:Callee? Go.Proofs.Tryz.prog 20:=KD Go.Proofs.Tryz.func20 (by kernel_rfl) rfl
theorem KCB:Callee? Go.Proofs.Tryz.prog 80:=KD Go.Proofs.Tryz.func80 (by kernel_rfl) rfl
theorem KD4:Callee? Go.Proofs.Tryz.prog 44:=KD Go.Proofs.Tryz.func44 (by kernel_rfl) rfl
theorem KD5:Callee? Go.Proofs.Tryz.prog 42:=KD Go.Proofs.Tryz.func42 (by kernel_rfl) rfl
theorem KC3:Callee? Go.Proofs.Tryz.prog 46:=KD Go.Proofs.Tryz.func46 (by kernel_rfl) rfl
theorem KCC:Callee? Go.Proofs.Tryz.prog 17:=KD Go.Proofs.Tryz.func17 (by kernel_rfl) rfl
theorem KC4:Callee? Go.Proofs.Tryz.prog 15:=KD Go.Proofs.Tryz.func15 (by kernel_rfl) rfl
theorem KAv:Callee? Go.Proofs.Tryz.prog 28:=KD Go.Proofs.Tryz.func28 (by kernel_rfl) rfl
theorem KD6:Callee? Go.Proofs.Tryz.prog 40:=KD Go.Proofs.Tryz.func40 (by kernel_rfl) rfl
theorem KC5:Callee? Go.Proofs.Tryz.prog 18:=KD Go.Proofs.Tryz.func18 (by kernel_rfl) rfl
theorem GD:Callee? Go.Proofs.Tryz.prog 171:=KD Go.Proofs.Tryz.func171 (by kernel_rfl) rfl
theorem KC6:Callee? Go.Proofs.Tryz.prog 81:=KD Go.Proofs.Tryz.func81 (by kernel_rfl) rfl
theorem KD7:Callee? Go.Proofs.Tryz.prog 74:=KD Go.Proofs.Tryz.func74 (by kernel_rfl) rfl
theorem KCD:Callee? Go.Proofs.Tryz.prog 129:=KD Go.Proofs.Tryz.func129 (by kernel_rfl) rfl
theorem KCE:Callee? Go.Proofs.Tryz.prog 133:=KD Go.Proofs.Tryz.func133 (by kernel_rfl) rfl
theorem KC7:Callee? Go.Proofs.Tryz.prog 75:=KD Go.Proofs.Tryz.func75 (by kernel_rfl) rfl
theorem Wf:Callee? Go.Proofs.Tryz.prog 175:=KD Go.Proofs.Tryz.func175 (by kernel_rfl) rfl
theorem Gu:Callee? Go.Proofs.Tryz.prog 218:=KD Go.Proofs.Tryz.func218 (by kernel_rfl) rfl
theorem ZD:Callee? Go.Proofs.Tryz.prog 132:=KD Go.Proofs.Tryz.func132 (by kernel_rfl) rfl
theorem Kj:Callee? Go.Proofs.Tryz.prog 170:=KD Go.Proofs.Tryz.func170 (by kernel_rfl) rfl
theorem Y8:Callee? Go.Proofs.Tryz.prog 176:=KD Go.Proofs.Tryz.func176 (by kernel_rfl) rfl
theorem ZY:Callee? Go.Proofs.Tryz.prog 174:=KD Go.Proofs.Tryz.func174 (by kernel_rfl) rfl
theorem YA:Callee? Go.Proofs.Tryz.prog 172:=KD Go.Proofs.Tryz.func172 (by kernel_rfl) rfl
theorem ql:Callee? Go.Proofs.Tryz.prog 173:=KD Go.Proofs.Tryz.func173 (by kernel_rfl) rfl
theorem VN:Callee? Go.Proofs.Tryz.prog 131:=KD Go.Proofs.Tryz.func131 (by kernel_rfl) rfl
theorem zi:Callee? Go.Proofs.Tryz.prog 76:=KD Go.Proofs.Tryz.func76 (by kernel_rfl) rfl
theorem Y1:KEa Go.Proofs.Tryz.prog 146 0=some 0:=by kernel_rfl
theorem Za:KEa Go.Proofs.Tryz.prog 146 1=some 1:=by kernel_rfl
theorem KM9:niB Go.Proofs.Tryz.prog 142=true:=by kernel_rfl
theorem KNA:X3 Go.Proofs.Tryz.prog 142=some [(0,1)]:=by kernel_rfl
theorem pl24:X3 Go.Proofs.Tryz.prog 24=some [(0,1),(1,1),(2,1),(3,1)]:=by kernel_rfl
theorem sc3:scB Go.Proofs.Tryz.prog 3=true:=by kernel_rfl
theorem sc89:scB Go.Proofs.Tryz.prog 89=true:=by kernel_rfl
theorem sc9:scB Go.Proofs.Tryz.prog 9=true:=by kernel_rfl
theorem sz22:szB Go.Proofs.Tryz.prog 22 1=true:=by kernel_rfl
theorem sz24:szB Go.Proofs.Tryz.prog 24 4=true:=by kernel_rfl
theorem sz3:szB Go.Proofs.Tryz.prog 3 1=true:=by kernel_rfl
theorem sz5:szB Go.Proofs.Tryz.prog 5 1=true:=by kernel_rfl
theorem sz89:szB Go.Proofs.Tryz.prog 89 1=true:=by kernel_rfl
end Gx
namespace Gx
open Go Go.Proofs Go.Shelf Go.Sort Go.RowKit
set_option linter.unusedVariables false
set_option linter.unusedSimpArgs false
set_option maxRecDepth 100000
def KBZ:Go.Shelf.Ren:=⟨fun | 119=>245 | 120=>223 | 125=>167 | 128=>216 | 129=>217 | 137=>242 | 151=>182 | 152=>222 | 160=>92 | 197=>181 | 213=>127 | 217=>194 | 219=>155 | 224=>196 | 225=>195 | 227=>145 | 228=>180 | 231=>143 | 232=>144 | 233=>146 | 234=>147 | 235=>148 | 236=>149 | 240=>150 | 246=>198 | 247=>201 | 260=>221 | 265=>168 | 266=>225 | 267=>197 | 271=>183 | 276=>184 | 283=>227 | 284=>228 | 285=>229 | 286=>230 | 287=>231 | 314=>226 | 317=>247 | 318=>248 | 319=>249 | 320=>250 | 321=>251 | 322=>252 | 337=>258 | 338=>259 | n=>n,fun | 0=>0 | 2=>2 | 3=>3 | 4=>4 | 5=>5 | 9=>9 | 20=>20 | 21=>21 | 37=>35 | 46=>184 | 51=>215 | 53=>154 | 70=>107 | 72=>109 | 75=>111 | 80=>115 | 105=>191 | 116=>160 | 117=>161 | 119=>238 | 124=>164 | 138=>240 | 139=>241 | 146=>218 | 164=>194 | 167=>225 | 171=>221 | 173=>223 | 175=>226 | 212=>245 | 213=>246 | 232=>258 | 233=>259 | n=>n,fun | 1=>0 | 3=>1 | 4=>2 | 17=>3 | 18=>6 | 19=>7 | n=>n⟩
theorem KC8:Lays.n213 Go.Proofs.Tryz.prog KBZ:={
 mixed:=by kernel_rfl
 f213:=Tryz.func127.trans (congrArg some (by kernel_rfl))
 f265:=Tryz.func168.trans (congrArg some (by kernel_rfl))
 t3:=Tryz.underlying3
 a3:=Tryz.isAgg3
 z3:=Tryz.sizeOf3
 v3:=Tryz.zeroValue3
 t9:=Tryz.underlying9
 a9:=Tryz.isAgg9
 z9:=Tryz.sizeOf9
 v9:=Tryz.zeroValue9 }
theorem KC9:Lays.n217 Go.Proofs.Tryz.prog KBZ:={
 mixed:=by kernel_rfl
 f217:=Tryz.func194.trans (congrArg some (by kernel_rfl))
 f266:=Tryz.func225.trans (congrArg some (by kernel_rfl))
 t3:=Tryz.underlying3
 a3:=Tryz.isAgg3
 z3:=Tryz.sizeOf3
 v3:=Tryz.zeroValue3
 t5:=Tryz.underlying5
 a5:=Tryz.isAgg5
 z5:=Tryz.sizeOf5
 v5:=Tryz.zeroValue5
 t9:=Tryz.underlying9
 a9:=Tryz.isAgg9
 z9:=Tryz.sizeOf9
 v9:=Tryz.zeroValue9 }
theorem KCF:LaysC.n247 Go.Proofs.Tryz.prog KBZ:={
 mixed:=by kernel_rfl
 f247:=Tryz.func201.trans (congrArg some (by kernel_rfl))
 f287:=Tryz.func231.trans (congrArg some (by kernel_rfl))
 f321:=Tryz.func251.trans (congrArg some (by kernel_rfl))
 f322:=Tryz.func252.trans (congrArg some (by kernel_rfl))
 t0:=Tryz.underlying0
 a0:=Tryz.isAgg0
 z0:=Tryz.sizeOf0
 v0:=Tryz.zeroValue0
 t2:=Tryz.underlying2
 a2:=Tryz.isAgg2
 z2:=Tryz.sizeOf2
 v2:=Tryz.zeroValue2
 t3:=Tryz.underlying3
 a3:=Tryz.isAgg3
 z3:=Tryz.sizeOf3
 v3:=Tryz.zeroValue3
 t4:=Tryz.underlying4
 a4:=Tryz.isAgg4
 z4:=Tryz.sizeOf4
 v4:=Tryz.zeroValue4
 t5:=Tryz.underlying5
 a5:=Tryz.isAgg5
 z5:=Tryz.sizeOf5
 v5:=Tryz.zeroValue5
 t9:=Tryz.underlying9
 a9:=Tryz.isAgg9
 z9:=Tryz.sizeOf9
 v9:=Tryz.zeroValue9
 t21:=Tryz.underlying21
 a21:=Tryz.isAgg21
 z21:=Tryz.sizeOf21
 v21:=Tryz.zeroValue21
 t37:=Tryz.underlying35
 a37:=Tryz.isAgg35
 z37:=Tryz.sizeOf35
 v37:=Tryz.zeroValue35
 t46:=Tryz.underlying184
 a46:=Tryz.isAgg184
 z46:=Tryz.sizeOf184
 v46:=Tryz.zeroValue184
 t53:=Tryz.underlying154
 a53:=Tryz.isAgg154
 z53:=Tryz.sizeOf154
 v53:=Tryz.zeroValue154
 t75:=Tryz.underlying111
 a75:=Tryz.isAgg111
 z75:=Tryz.sizeOf111
 v75:=Tryz.zeroValue111
 t167:=Tryz.underlying225
 a167:=Tryz.isAgg225
 z167:=Tryz.sizeOf225
 v167:=Tryz.zeroValue225
 t175:=Tryz.underlying226
 a175:=Tryz.isAgg226
 z175:=Tryz.sizeOf226
 v175:=Tryz.zeroValue226
 t80:=Tryz.underlying115
 a80:=Tryz.isAgg115
 z80:=Tryz.sizeOf115
 v80:=Tryz.zeroValue115
 i0:=by kernel_rfl
 i2:=by kernel_rfl
 i3:=by kernel_rfl
 i4:=by kernel_rfl
 i5:=by kernel_rfl
 i9:=by kernel_rfl
 i21:=by kernel_rfl
 i37:=by kernel_rfl
 i46:=by kernel_rfl
 i53:=by kernel_rfl
 i75:=by kernel_rfl
 i80:=by kernel_rfl
 i167:=by kernel_rfl
 i175:=by kernel_rfl
 c0:=by kernel_rfl
 c2:=by kernel_rfl
 c3:=by kernel_rfl
 c4:=by kernel_rfl
 c5:=by kernel_rfl
 c9:=by kernel_rfl
 c21:=by kernel_rfl
 c37:=by kernel_rfl
 c46:=by kernel_rfl
 c53:=by kernel_rfl
 c75:=by kernel_rfl
 c80:=by kernel_rfl
 c167:=by kernel_rfl
 c175:=by kernel_rfl }
theorem zj:Lays.n240 Go.Proofs.Tryz.prog KBZ:={
 mixed:=by kernel_rfl
 f240:=Tryz.func150.trans (congrArg some (by kernel_rfl))
 f276:=Tryz.func184.trans (congrArg some (by kernel_rfl))
 t0:=Tryz.underlying0
 a0:=Tryz.isAgg0
 z0:=Tryz.sizeOf0
 v0:=Tryz.zeroValue0
 t4:=Tryz.underlying4
 a4:=Tryz.isAgg4
 z4:=Tryz.sizeOf4
 v4:=Tryz.zeroValue4
 t9:=Tryz.underlying9
 a9:=Tryz.isAgg9
 z9:=Tryz.sizeOf9
 v9:=Tryz.zeroValue9
 t20:=Tryz.underlying20
 a20:=Tryz.isAgg20
 z20:=Tryz.sizeOf20
 v20:=Tryz.zeroValue20
 t70:=Tryz.underlying107
 a70:=Tryz.isAgg107
 z70:=Tryz.sizeOf107
 v70:=Tryz.zeroValue107
 t72:=Tryz.underlying109
 a72:=Tryz.isAgg109
 z72:=Tryz.sizeOf109
 v72:=Tryz.zeroValue109
 t164:=Tryz.underlying194
 a164:=Tryz.isAgg194
 z164:=Tryz.sizeOf194
 v164:=Tryz.zeroValue194 }
theorem KCG:LaysM.n246 Go.Proofs.Tryz.prog KBZ:={
 mixed:=by kernel_rfl
 f129:=Tryz.func217.trans (congrArg some (by kernel_rfl))
 f246:=Tryz.func198.trans (congrArg some (by kernel_rfl))
 f283:=Tryz.func227.trans (congrArg some (by kernel_rfl))
 f284:=Tryz.func228.trans (congrArg some (by kernel_rfl))
 f285:=Tryz.func229.trans (congrArg some (by kernel_rfl))
 f286:=Tryz.func230.trans (congrArg some (by kernel_rfl))
 f317:=Tryz.func247.trans (congrArg some (by kernel_rfl))
 f318:=Tryz.func248.trans (congrArg some (by kernel_rfl))
 f319:=Tryz.func249.trans (congrArg some (by kernel_rfl))
 f320:=Tryz.func250.trans (congrArg some (by kernel_rfl))
 f337:=Tryz.func258.trans (congrArg some (by kernel_rfl))
 f338:=Tryz.func259.trans (congrArg some (by kernel_rfl))
 t0:=Tryz.underlying0
 a0:=Tryz.isAgg0
 z0:=Tryz.sizeOf0
 v0:=Tryz.zeroValue0
 t2:=Tryz.underlying2
 a2:=Tryz.isAgg2
 z2:=Tryz.sizeOf2
 v2:=Tryz.zeroValue2
 t3:=Tryz.underlying3
 a3:=Tryz.isAgg3
 z3:=Tryz.sizeOf3
 v3:=Tryz.zeroValue3
 t4:=Tryz.underlying4
 a4:=Tryz.isAgg4
 z4:=Tryz.sizeOf4
 v4:=Tryz.zeroValue4
 t5:=Tryz.underlying5
 a5:=Tryz.isAgg5
 z5:=Tryz.sizeOf5
 v5:=Tryz.zeroValue5
 t9:=Tryz.underlying9
 a9:=Tryz.isAgg9
 z9:=Tryz.sizeOf9
 v9:=Tryz.zeroValue9
 t20:=Tryz.underlying20
 a20:=Tryz.isAgg20
 z20:=Tryz.sizeOf20
 v20:=Tryz.zeroValue20
 t37:=Tryz.underlying35
 a37:=Tryz.isAgg35
 z37:=Tryz.sizeOf35
 v37:=Tryz.zeroValue35
 t46:=Tryz.underlying184
 a46:=Tryz.isAgg184
 z46:=Tryz.sizeOf184
 v46:=Tryz.zeroValue184
 t51:=Tryz.underlying215
 a51:=Tryz.isAgg215
 z51:=Tryz.sizeOf215
 v51:=Tryz.zeroValue215
 t53:=Tryz.underlying154
 a53:=Tryz.isAgg154
 z53:=Tryz.sizeOf154
 v53:=Tryz.zeroValue154
 t171:=Tryz.underlying221
 a171:=Tryz.isAgg221
 z171:=Tryz.sizeOf221
 v171:=Tryz.zeroValue221
 t173:=Tryz.underlying223
 a173:=Tryz.isAgg223
 z173:=Tryz.sizeOf223
 v173:=Tryz.zeroValue223
 t212:=Tryz.underlying245
 a212:=Tryz.isAgg245
 z212:=Tryz.sizeOf245
 v212:=Tryz.zeroValue245
 t213:=Tryz.underlying246
 a213:=Tryz.isAgg246
 z213:=Tryz.sizeOf246
 t232:=Tryz.underlying258
 a232:=Tryz.isAgg258
 z232:=Tryz.sizeOf258
 v232:=Tryz.zeroValue258
 t233:=Tryz.underlying259
 a233:=Tryz.isAgg259
 z233:=Tryz.sizeOf259
 v233:=Tryz.zeroValue259
 g17:=by kernel_rfl
 g18:=by kernel_rfl
 g19:=by kernel_rfl
 i0:=by kernel_rfl
 i2:=by kernel_rfl
 i3:=by kernel_rfl
 i4:=by kernel_rfl
 i5:=by kernel_rfl
 i9:=by kernel_rfl
 i20:=by kernel_rfl
 i37:=by kernel_rfl
 i46:=by kernel_rfl
 i51:=by kernel_rfl
 i53:=by kernel_rfl
 i171:=by kernel_rfl
 i173:=by kernel_rfl
 i212:=by kernel_rfl
 i232:=by kernel_rfl
 i233:=by kernel_rfl
 m17:=by kernel_rfl
 m18:=by kernel_rfl
 m19:=by kernel_rfl }
theorem KDA:Lays.n160 Go.Proofs.Tryz.prog KBZ:={
 mixed:=by kernel_rfl
 f119:=Tryz.func245.trans (congrArg some (by kernel_rfl))
 f120:=Tryz.func223.trans (congrArg some (by kernel_rfl))
 f137:=Tryz.func242.trans (congrArg some (by kernel_rfl))
 f151:=Tryz.func182.trans (congrArg some (by kernel_rfl))
 f152:=Tryz.func222.trans (congrArg some (by kernel_rfl))
 f160:=Tryz.func92.trans (congrArg some (by kernel_rfl))
 f197:=Tryz.func181.trans (congrArg some (by kernel_rfl))
 f217:=Tryz.func194.trans (congrArg some (by kernel_rfl))
 f224:=Tryz.func196.trans (congrArg some (by kernel_rfl))
 f225:=Tryz.func195.trans (congrArg some (by kernel_rfl))
 f227:=Tryz.func145.trans (congrArg some (by kernel_rfl))
 f228:=Tryz.func180.trans (congrArg some (by kernel_rfl))
 f231:=Tryz.func143.trans (congrArg some (by kernel_rfl))
 f232:=Tryz.func144.trans (congrArg some (by kernel_rfl))
 f233:=Tryz.func146.trans (congrArg some (by kernel_rfl))
 f234:=Tryz.func147.trans (congrArg some (by kernel_rfl))
 f235:=Tryz.func148.trans (congrArg some (by kernel_rfl))
 f236:=Tryz.func149.trans (congrArg some (by kernel_rfl))
 f260:=Tryz.func221.trans (congrArg some (by kernel_rfl))
 f266:=Tryz.func225.trans (congrArg some (by kernel_rfl))
 f271:=Tryz.func183.trans (congrArg some (by kernel_rfl))
 t0:=Tryz.underlying0
 a0:=Tryz.isAgg0
 z0:=Tryz.sizeOf0
 v0:=Tryz.zeroValue0
 t3:=Tryz.underlying3
 a3:=Tryz.isAgg3
 z3:=Tryz.sizeOf3
 v3:=Tryz.zeroValue3
 t4:=Tryz.underlying4
 a4:=Tryz.isAgg4
 z4:=Tryz.sizeOf4
 v4:=Tryz.zeroValue4
 t5:=Tryz.underlying5
 a5:=Tryz.isAgg5
 z5:=Tryz.sizeOf5
 v5:=Tryz.zeroValue5
 t9:=Tryz.underlying9
 a9:=Tryz.isAgg9
 z9:=Tryz.sizeOf9
 v9:=Tryz.zeroValue9
 t21:=Tryz.underlying21
 a21:=Tryz.isAgg21
 z21:=Tryz.sizeOf21
 v21:=Tryz.zeroValue21
 t46:=Tryz.underlying184
 a46:=Tryz.isAgg184
 z46:=Tryz.sizeOf184
 v46:=Tryz.zeroValue184
 t105:=Tryz.underlying191
 a105:=Tryz.isAgg191
 z105:=Tryz.sizeOf191
 v105:=Tryz.zeroValue191
 t116:=Tryz.underlying160
 a116:=Tryz.isAgg160
 z116:=Tryz.sizeOf160
 t117:=Tryz.underlying161
 a117:=Tryz.isAgg161
 z117:=Tryz.sizeOf161
 v117:=Tryz.zeroValue161
 t119:=Tryz.underlying238
 a119:=Tryz.isAgg238
 z119:=Tryz.sizeOf238
 t124:=Tryz.underlying164
 a124:=Tryz.isAgg164
 z124:=Tryz.sizeOf164
 v124:=Tryz.zeroValue164
 t138:=Tryz.underlying240
 a138:=Tryz.isAgg240
 z138:=Tryz.sizeOf240
 v138:=Tryz.zeroValue240
 t139:=Tryz.underlying241
 a139:=Tryz.isAgg241
 z139:=Tryz.sizeOf241
 v139:=Tryz.zeroValue241
 g3:=by kernel_rfl
 g4:=by kernel_rfl }
def Zv (x0 x1:ByteArray):M Int:=M.pure (Lib.compareBytes x0.data.toList x1.data.toList)
theorem Wz (x0 x1:ByteArray):Kg Go.Proofs.Tryz.prog 127 #[.string x0,.string x1] (fun (r:Int)=>.int .i64 r) (Zv x0 x1):=by
 intro w Q H
 refine (Any.bytealg_CompareString KC8 x0 x1 w).mono ?_
 rintro e w' ⟨rfl,rfl⟩
 exact ⟨_,rfl,H,Rest.refl _⟩
def Zw (x0:ByteArray) (x1:Int):M Int:=M.pure (Lib.indexByte x0.data.toList x1.toNat.toUInt8)
theorem W8 (x0:ByteArray) (x1:Int):Kg Go.Proofs.Tryz.prog 194 #[.string x0,.int .u8 x1] (fun (r:Int)=>.int .i64 r) (Zw x0 x1):=by
 intro w Q H
 refine (Any.stringslite_IndexByte KC9 x0 x1 w).mono ?_
 rintro e w' ⟨rfl,rfl⟩
 exact ⟨_,rfl,H,Rest.refl _⟩
def UU (x0:ByteArray) (x1:Int) (x2:Int):M (Int × Value) :=
 ⟨fun h Q=>x1=10∧x2=64∧x0.size≤9223372036854775806∧∀ h':Heap,h.size≤h'.size→(∀ i,i < h.size→h'[i]?=h[i]?)→(match Lib.parseIntB 64 x0.data.toList with | .ok v=>Q (v,.nilIface) h' | .range=>Q (Lib.intSat 64 x0.data.toList,.iface 225 (.int .i64 1)) h' | _=>Q (0,.iface 225 (.int .i64 2)) h'),
  fun hq ⟨h0,h1,h2,h3⟩=>⟨h0,h1,h2,fun h' a b=>by have h5:=h3 h' a b; revert h5; cases Lib.parseIntB 64 x0.data.toList <;> exact fun h5=>hq _ _ h5⟩⟩
theorem Xb (x0:ByteArray) (x1:Int) (x2:Int):Kg Go.Proofs.Tryz.prog 201 #[.string x0,.int .i64 x1,.int .i64 x2] (fun (r:Int × Value)=>.tuple #[.int .i64 r.1,r.2]) (UU x0 x1 x2):=by
 intro w Q ⟨h0,h1,h2,h4⟩
 subst h0
 subst h1
 refine (Any.internal_strconv_ParseInt_10_all64 KCF x0 h2 w).mono ?_
 rintro e w' ⟨rfl,hw⟩
 have hb:w.heap.size≤w'.heap.size∧(∀ i,i < w.heap.size→w'.heap[i]?=w.heap[i]?)∧Rest w w':=by
  rcases hw with rfl | ⟨t,rfl⟩
  ·exact ⟨Nat.le_refl _,fun _ _=>rfl,Rest.refl _⟩
  ·have hb:=Lib.bytesWorld_below w (5) t
   exact ⟨hb.size,hb.block,⟨hb.os,hb.output,hb.tape,Nat.le_succ w.drawn⟩⟩
 obtain ⟨b1,b2,b3⟩:=hb
 have h5:=h4 _ b1 b2
 cases hp:Lib.parseIntB 64 x0.data.toList <;> (rw [hp] at h5; exact ⟨_,rfl,h5,b3⟩)
def WK (x0:ByteArray) (x1:ByteArray):M (Option Addr):=M.fail
theorem Ng (x0:ByteArray) (x1:ByteArray):Kg Go.Proofs.Tryz.prog 232 #[.string x0,.string x1] (fun (r:Option Addr)=>.pointer r) (WK x0 x1):=fun w Q H=>H.elim
def YI (x0:ByteArray) (x1:ByteArray) (x2:Int):M (Option Addr):=M.fail
theorem qm (x0:ByteArray) (x1:ByteArray) (x2:Int):Kg Go.Proofs.Tryz.prog 234 #[.string x0,.string x1,.int .i64 x2] (fun (r:Option Addr)=>.pointer r) (YI x0 x1 x2):=fun w Q H=>H.elim
def Vn (x0:ByteArray) (x1:ByteArray) (x2:Int):M (Option Addr):=M.fail
theorem NI (x0:ByteArray) (x1:ByteArray) (x2:Int):Kg Go.Proofs.Tryz.prog 235 #[.string x0,.string x1,.int .i64 x2] (fun (r:Option Addr)=>.pointer r) (Vn x0 x1 x2):=fun w Q H=>H.elim
theorem KHb:Builder.X72 Go.Proofs.Tryz.prog KBZ:={ sizeBuilder:=by kernel_rfl,liesBuilder:=by kernel_rfl }
def K0 (x0:Option Addr):M Unit :=
 ⟨fun h Q=>∃ b p v,x0=some ⟨b,0,none⟩∧h[b]?=some (.cells #[p,v] 109 (0,0))∧((p=.pointer (some ⟨b,0,none⟩)∧Q () h)∨(p=.pointer none∧Q () (hset h ⟨b,0,none⟩ (.pointer (some ⟨b,0,none⟩))))),
  fun hq ⟨b,p,v,h1,h2,h3⟩=>⟨b,p,v,h1,h2,h3.imp (fun ⟨a,c⟩=>⟨a,hq _ _ c⟩) (fun ⟨a,c⟩=>⟨a,hq _ _ c⟩)⟩⟩
theorem J5 (x0:Option Addr):Kg Go.Proofs.Tryz.prog 150 #[.pointer x0] (fun (r:Unit)=>.tuple #[]) (K0 x0):=by
 intro w Q ⟨b,p,v,h1,h2,h3⟩
 subst h1
 have hc:w.cell? ⟨b,0,none⟩=some p:=by rw [KCP]; simp [KO,h2]
 rcases h3 with ⟨rfl,hq⟩ | ⟨rfl,hq⟩
 ·refine (Any.Builder_copyCheck_used zj KHb b w hc).mono ?_
  rintro e w' ⟨rfl,rfl⟩
  exact ⟨(),rfl,hq,Rest.refl _⟩
 ·refine (Any.Builder_copyCheck_fresh zj KHb b w hc (by simp [World.shape?,h2]; rfl) (by simp [World.frozen?,h2])).mono ?_
  rintro e w' ⟨rfl,rfl⟩
  exact ⟨(),rfl,hq,⟨rfl,rfl,rfl,Nat.le_refl _⟩⟩
def qN (h:Heap):Prop:=∃ fz ty,h[3]?=some (.cells (Lib.pow10Tab.map fun z=>Value.int .u64 z).toArray ty fz)
def KBa (x0:Int):M ByteArray :=
 ⟨fun h Q=>-9223372036854775808≤x0∧x0≤9223372036854775807∧qN h∧∀ h':Heap,h.size≤h'.size→(∀ i,i < h.size→h'[i]?=h[i]?)→Q ⟨(Lib.itoa x0).toArray⟩ h',
  fun hq ⟨h2,h3,h4,h5⟩=>⟨h2,h3,h4,fun h' a b=>hq _ _ (h5 h' a b)⟩⟩
theorem KAJ (x0:Int):Kg Go.Proofs.Tryz.prog 198 #[.int .i64 x0,.int .i64 10] (fun (r:ByteArray)=>.string r) (KBa x0):=by
 intro w Q ⟨h2,h3,⟨fz,ty,h4⟩,h5⟩
 refine (Any.internal_strconv_FormatInt_10 KCG x0 h2 h3 w ?_).mono ?_
 ·show w.var? Go.Proofs.Tryz.prog _=_
  have hg:Go.Proofs.Tryz.prog.globalNamed "internal/strconv.uint64pow10"=some 3:=by kernel_rfl
  simp only [World.var?,hg,Option.bind_some,h4]
 ·rintro e w' ⟨rfl,k,os,rfl⟩
  refine ⟨_,rfl,h5 _ ?_ ?_,⟨rfl,rfl,rfl,Nat.le_add_right _ _⟩⟩
  ·show w.heap.size≤(w.heap++os).size
   simp
  ·intro i hi
   show (w.heap++os)[i]?=_
   rw [Array.getElem?_append_left hi]
def KBb (h:Heap):Prop:=∃ cs ty fz,h[7]?=some (.cells cs ty fz)∧cs[15]?=some (.int .u8 4)
def WT (x0 x1:ByteArray):M ByteArray :=
 ⟨fun h Q=>2≤x1.size∧x1.size < 4294967281∧0 < x0.size∧x0.size≤9223372036854775807∧(∀ (j:Nat) b,x1.data.toList[j]?=some b→b.toNat < 128)∧∀ h':Heap,h.size≤h'.size→(∀ i,i < h.size→h'[i]?=h[i]?)→Q ⟨(Lib.trimS x0.data.toList x1.data.toList).toArray⟩ h',
  fun hq ⟨h0,h1,h2,h3,h4,h5⟩=>⟨h0,h1,h2,h3,h4,fun h' a b=>hq _ _ (h5 h' a b)⟩⟩
theorem KCH (x0 x1:ByteArray):Kg Go.Proofs.Tryz.prog 92 #[.string x0,.string x1] (fun (r:ByteArray)=>.string r) (WT x0 x1):=by
 intro w Q ⟨h0,h1,h2,h3,h4,h5⟩
 have h116:(Go.Proofs.Tryz.prog.info? (160)).map (fun i=>(i.zero,i.size))=some (some (.agg (Array.replicate 256 (.bool false))),256):=by kernel_rfl
 refine (Any.strings_Trim_set KDA (zero_of_info h116).1 (zero_of_info h116).2 x0 x1 w h0 h2 h3 h1 h4).mono ?_
 rintro e w' ⟨rfl,q,rfl⟩
 refine ⟨_,rfl,h5 _ ?_ ?_,⟨rfl,rfl,rfl,Nat.le_add_right _ _⟩⟩
 ·show w.heap.size≤((w.heap.push _).push _).size
  simp; omega
 ·intro i hi
  show ((w.heap.push _).push _)[i]?=_
  rw [Array.getElem?_push,if_neg (by rw [Array.size_push]; omega),Array.getElem?_push,if_neg (by omega)]
end Gx
namespace Gx
open Go
set_option linter.unusedVariables false
set_option maxRecDepth 100000
def Gv (C6:Int) (C7:Sl) (C8:Int) (self1:(Int)→M (Int)):(Int)→M (Int):=fun s=>match s with
 | Xx5=>do
  M.ite (decide (Xx5 < C8)) (do
   let Xx14←ixL C7 Xx5 1
   let Xx15←ldI .i64 Xx14
   M.ite (Xx15 != C6) (do
    M.pure Xx15
    ) (do
    self1 (IntKind.wrap .i64 (Xx5+1))
    )
   ) (do
   M.pure C6
   )
def GN (x0:Sl):M (Int):=do
 M.loop (Gv 0 x0 (x0.len:Int)) 0
theorem KD8 (x0:Sl):Kg Go.Proofs.Tryz.prog 69 #[(x0:Sl).v] (fun (r:Int)=>.int .i64 r) (GN x0) :=
 KI [] [] [.I .i64] [(0,.L x0)] (.q .o (.q .o (.q (.q .o (.b (.l [(3,.I .i64),(6,.L),(7,.I .i64)] [(8,.I .i64)] (fun (t:Int × Sl × Int)=>Gv t.1 t.2.1 t.2.2) (fun _=>.o)))) .o))) Go.Proofs.Tryz.func69 rfl rfl ⟨rfl,trivial⟩ rfl (by kernel_rfl) (by kernel_rfl)
noncomputable def KD9:CalleeS Go.Proofs.Tryz.prog:=mkC KCw KC2 [.L] [.I .i64] (fun (t:Sl)=>GN t) (fun (t:Sl)=>KD8 t)
def Wg (x0:Int):M (Bool):=do
 M.pure (x0 != x0)
theorem KBc (x0:Int):Kg Go.Proofs.Tryz.prog 125 #[.int .i64 x0] (fun (r:Bool)=>.bool r) (Wg x0) :=
 KI [] [] [.B] [(0,.I .i64 x0)] .o Go.Proofs.Tryz.func125 rfl rfl ⟨rfl,trivial⟩ rfl (by kernel_rfl) (by kernel_rfl)
noncomputable def KBd:CalleeS Go.Proofs.Tryz.prog:=mkC KA3 KA4 [.I .i64] [.B] (fun (t:Int)=>Wg t) (fun (t:Int)=>KBc t)
def VO (x0:Int) (x1:Int):M (Int):=do
 let Xx3←Wg x0
 let Xx5←Wg x1
 M.ite Xx3 (do
  M.ite Xx5 (do
   M.pure 0
   ) (do
   M.pure (-1)
   )
  ) (do
  M.ite Xx5 (do
   M.pure 1
   ) (do
   M.ite (decide (x0 < x1)) (do
    M.pure (-1)
    ) (do
    M.ite (decide (x0 > x1)) (do
     M.pure 1
     ) (do
     M.pure 0
     )
    )
   )
  )
theorem KAK (x0:Int) (x1:Int):Kg Go.Proofs.Tryz.prog 70 #[.int .i64 x0,.int .i64 x1] (fun (r:Int)=>.int .i64 r) (VO x0 x1) :=
 KI [KBd] [] [.I .i64] [(0,.I .i64 x0),(1,.I .i64 x1)] .o Go.Proofs.Tryz.func70 rfl rfl ⟨rfl,rfl,trivial⟩ rfl (by kernel_rfl) (by kernel_rfl)
noncomputable def KAL:CalleeS Go.Proofs.Tryz.prog:=mkC zK zW [.I .i64,.I .i64] [.I .i64] (fun (t:Int × Int)=>VO t.1 t.2) (fun (t:Int × Int)=>KAK t.1 t.2)
def VP (x0:Int):M (Bool):=do
 M.pure (x0 != x0)
theorem KAM (x0:Int):Kg Go.Proofs.Tryz.prog 126 #[.int .i64 x0] (fun (r:Bool)=>.bool r) (VP x0) :=
 KI [] [] [.B] [(0,.I .i64 x0)] .o Go.Proofs.Tryz.func126 rfl rfl ⟨rfl,trivial⟩ rfl (by kernel_rfl) (by kernel_rfl)
noncomputable def KAN:CalleeS Go.Proofs.Tryz.prog:=mkC zL zX [.I .i64] [.B] (fun (t:Int)=>VP t) (fun (t:Int)=>KAM t)
def Ug (x0:Int) (x1:Int):M (Int):=do
 let Xx3←VP x0
 let Xx5←VP x1
 M.ite Xx3 (do
  M.ite Xx5 (do
   M.pure 0
   ) (do
   M.pure (-1)
   )
  ) (do
  M.ite Xx5 (do
   M.pure 1
   ) (do
   M.ite (decide (x0 < x1)) (do
    M.pure (-1)
    ) (do
    M.ite (decide (x0 > x1)) (do
     M.pure 1
     ) (do
     M.pure 0
     )
    )
   )
  )
theorem qn (x0:Int) (x1:Int):Kg Go.Proofs.Tryz.prog 71 #[.int .i64 x0,.int .i64 x1] (fun (r:Int)=>.int .i64 r) (Ug x0 x1) :=
 KI [KAN] [] [.I .i64] [(0,.I .i64 x0),(1,.I .i64 x1)] .o Go.Proofs.Tryz.func71 rfl rfl ⟨rfl,rfl,trivial⟩ rfl (by kernel_rfl) (by kernel_rfl)
noncomputable def qo:CalleeS Go.Proofs.Tryz.prog:=mkC N2 N6 [.I .i64,.I .i64] [.I .i64] (fun (t:Int × Int)=>Ug t.1 t.2) (fun (t:Int × Int)=>qn t.1 t.2)
def Wh (x0:ByteArray) (x1:ByteArray):M (Int):=do
 let Xx3←Zv x0 x1
 M.pure Xx3
theorem KAO (x0:ByteArray) (x1:ByteArray):Kg Go.Proofs.Tryz.prog 72 #[.string x0,.string x1] (fun (r:Int)=>.int .i64 r) (Wh x0 x1) :=
 KI [mkC Wb Wd [.S,.S] [.I .i64] (fun (t:ByteArray × ByteArray)=>Zv t.1 t.2) (fun (t:ByteArray × ByteArray)=>Wz t.1 t.2)] [] [.I .i64] [(0,.S x0),(1,.S x1)] .o Go.Proofs.Tryz.func72 rfl rfl ⟨rfl,rfl,trivial⟩ rfl (by kernel_rfl) (by kernel_rfl)
noncomputable def KAP:CalleeS Go.Proofs.Tryz.prog:=mkC zV zh [.S,.S] [.I .i64] (fun (t:ByteArray × ByteArray)=>Wh t.1 t.2) (fun (t:ByteArray × ByteArray)=>KAO t.1 t.2)
def KX (C5:Sl) (C6:Sl) (C7:Value) (C8:Sl) (C9:Int) (self1:(Int)→M (Int)):(Int)→M (Int):=fun s=>match s with
 | Xx4=>do
  M.ite (decide (Xx4 < C9)) (do
   let Xx15←ixL C8 Xx4 4
   let Xx16←ldG 4 Xx15
   let Xx17←mkB KB (#[.int .i64 0,.int .i64 0,.string ByteArray.empty,.slice none 0 0]:Array Value)
   M.need (Xx16.size=4)
   stG Xx17 Xx16
   M.ite (decide (Xx4 ≥ (C6.len:Int))) (do
    M.pure 1
    ) (do
    let Xx23←ixL C6 Xx4 4
    let Xx24←ldG 4 Xx23
    let Xx25←mkB KB (#[.int .i64 0,.int .i64 0,.string ByteArray.empty,.slice none 0 0]:Array Value)
    M.need (Xx24.size=4)
    stG Xx25 Xx24
    let Xx28←ldG 4 Xx17
    let Xx29←ldG 4 Xx25
    let Xx30←Gh Go.Proofs.Tryz.prog (fun r:Int=>.int .i64 r) C7 [.agg Xx28,.agg Xx29]
    M.ite (Xx30 != 0) (do
     M.pure Xx30
     ) (do
     self1 (IntKind.wrap .i64 (Xx4+1))
     )
    )
   ) (do
   M.ite (decide ((C5.len:Int) < (C6.len:Int))) (do
    M.pure (-1)
    ) (do
    M.pure 0
    )
   )
def KN (x0:Sl) (x1:Sl) (x2:Value):M (Int):=do
 M.loop (KX x0 x1 x2 x0 (x0.len:Int)) 0
theorem JD (x0:Sl) (x1:Sl) (x2:Value):Kg Go.Proofs.Tryz.prog 73 #[(x0:Sl).v,(x1:Sl).v,x2] (fun (r:Int)=>.int .i64 r) (KN x0 x1 x2) :=
 KI [] [] [.I .i64] [(0,.L x0),(1,.L x1),(2,.V x2)] (.q .o (.q (.q .o (.b (.l [(0,.L),(1,.L),(2,.V),(11,.L),(12,.I .i64)] [(13,.I .i64)] (fun (t:Sl × Sl × Value × Sl × Int)=>KX t.1 t.2.1 t.2.2.1 t.2.2.2.1 t.2.2.2.2) (fun _=>.o)))) .o)) Go.Proofs.Tryz.func73 rfl rfl ⟨rfl,rfl,rfl,trivial⟩ rfl (by kernel_rfl) (by kernel_rfl)
noncomputable def JE:CalleeS Go.Proofs.Tryz.prog:=mkC JB JC [.L,.L,.V] [.I .i64] (fun (t:Sl × Sl × Value)=>KN t.1 t.2.1 t.2.2) (fun (t:Sl × Sl × Value)=>JD t.1 t.2.1 t.2.2)
def UQ (x0:Array Value) (x1:Array Value):M (Int):=do
 let Xx2←mkB KB x0
 let Xx3←mkB KB x1
 let Xx5←ldI .i64 ((Xx2).add 0)
 let Xx6←ldI .i64 ((Xx3).add 0)
 let Xx7←ldI .i64 ((Xx2).add 1)
 let Xx8←ldI .i64 ((Xx3).add 1)
 let Xx9←ldS ((Xx2).add 2)
 let Xx10←ldS ((Xx3).add 2)
 let Xx11←ldL ((Xx2).add 3)
 let Xx12←ldL ((Xx3).add 3)
 let Xx13←VO Xx5 Xx6
 chk (fun h:Heap=>(KO h ((Xx2).add 0)=some (.int .i64 Xx5))∧(KO h ((Xx3).add 0)=some (.int .i64 Xx6))∧(KO h ((Xx2).add 1)=some (.int .i64 Xx7))∧(KO h ((Xx3).add 1)=some (.int .i64 Xx8))∧(KO h ((Xx2).add 2)=some (.string Xx9))∧(KO h ((Xx3).add 2)=some (.string Xx10))∧(KO h ((Xx2).add 3)=some ((Xx11:Sl).v))∧(KO h ((Xx3).add 3)=some ((Xx12:Sl).v)))
 let Xx14←Ug Xx7 Xx8
 chk (fun h:Heap=>(KO h ((Xx2).add 0)=some (.int .i64 Xx5))∧(KO h ((Xx3).add 0)=some (.int .i64 Xx6))∧(KO h ((Xx2).add 1)=some (.int .i64 Xx7))∧(KO h ((Xx3).add 1)=some (.int .i64 Xx8))∧(KO h ((Xx2).add 2)=some (.string Xx9))∧(KO h ((Xx3).add 2)=some (.string Xx10))∧(KO h ((Xx2).add 3)=some ((Xx11:Sl).v))∧(KO h ((Xx3).add 3)=some ((Xx12:Sl).v)))
 let Xx15←Wh Xx9 Xx10
 chk (fun h:Heap=>(KO h ((Xx2).add 0)=some (.int .i64 Xx5))∧(KO h ((Xx3).add 0)=some (.int .i64 Xx6))∧(KO h ((Xx2).add 1)=some (.int .i64 Xx7))∧(KO h ((Xx3).add 1)=some (.int .i64 Xx8))∧(KO h ((Xx2).add 2)=some (.string Xx9))∧(KO h ((Xx3).add 2)=some (.string Xx10))∧(KO h ((Xx2).add 3)=some ((Xx11:Sl).v))∧(KO h ((Xx3).add 3)=some ((Xx12:Sl).v)))
 let Xx16←KN Xx11 Xx12 (Value.func (.func Jl) #[] #[])
 let Xx17←bdL Nb 4 #[.int .i64 Xx13,.int .i64 Xx14,.int .i64 Xx15,.int .i64 Xx16]
 let Xx18←GN Xx17
 M.pure Xx18
theorem Xc (x0:Array Value) (x1:Array Value):Kg Go.Proofs.Tryz.prog 13 #[.agg x0,.agg x1] (fun (r:Int)=>.int .i64 r) (UQ x0 x1) :=
 KI [KD9,KAL,qo,KAP,JE] [] [.I .i64] [(0,.G x0),(1,.G x1)] (.q .o (.q (.r [0,1,0,4,10,0,32,0,128,336,0,1024,0,4096,10752,0,32768,0,131072,344064,541200,1572864,4194303] [0,1,0,4,10,0,32,0,128,320,0,1024,0,4096,10240,0,32768,0,131072,327680,541200,1048576,2097152] [0,1,0,4,15,0,32,0,128,511,0,1024,0,4096,16383,0,32768,0,131072,524287,1048575,2097151,4194303] (.pu 0 (.pu 2 (.pu 5 (.pu 7 (.pu 10 (.pu 12 (.pu 15 (.pu 17 (.pu 1 (.pu 3 (.pu 6 (.pu 8 (.pu 11 (.pu 13 (.pu 16 (.pu 18 (.st [19,20,21,22] (.on 4 (.on 9 (.on 14 (.on 19 (.on 20 (.on 21 (.pu 22 (.nx .dn)))))))))))))))))))))))))) .o)) Go.Proofs.Tryz.func13 rfl rfl ⟨rfl,rfl,trivial⟩ rfl (by kernel_rfl) (by kernel_rfl)
noncomputable def Xd:CalleeS Go.Proofs.Tryz.prog:=mkC Jl Y0 [.G,.G] [.I .i64] (fun (t:Array Value × Array Value)=>UQ t.1 t.2) (fun (t:Array Value × Array Value)=>Xc t.1 t.2)
def Zb (C5:Sl) (C6:Value) (C7:Int) (self1:(Int)→M (Int)):(Int)→M (Int):=fun s=>match s with
 | Xx4=>do
  M.ite (decide (Xx4 < C7)) (do
   let Xx14←ixL C5 Xx4 4
   let Xx15←ldG 4 Xx14
   let Xx16←Gh Go.Proofs.Tryz.prog (fun r:Bool=>.bool r) C6 [.agg Xx15]
   M.ite Xx16 (do
    M.pure Xx4
    ) (do
    self1 (IntKind.wrap .i64 (Xx4+1))
    )
   ) (do
   M.pure (-1)
   )
def ZL (x0:Sl) (x1:Value):M (Int):=do
 M.loop (Zb x0 x1 (x0.len:Int)) 0
theorem VB (x0:Sl) (x1:Value):Kg Go.Proofs.Tryz.prog 169 #[(x0:Sl).v,x1] (fun (r:Int)=>.int .i64 r) (ZL x0 x1) :=
 KI [] [] [.I .i64] [(0,.L x0),(1,.V x1)] (.q .o (.q (.q .o (.b (.l [(0,.L),(1,.V),(7,.I .i64)] [(8,.I .i64)] (fun (t:Sl × Value × Int)=>Zb t.1 t.2.1 t.2.2) (fun _=>.o)))) .o)) Go.Proofs.Tryz.func169 rfl rfl ⟨rfl,rfl,trivial⟩ rfl (by kernel_rfl) (by kernel_rfl)
noncomputable def VC:CalleeS Go.Proofs.Tryz.prog:=mkC U3 U4 [.L,.V] [.I .i64] (fun (t:Sl × Value)=>ZL t.1 t.2) (fun (t:Sl × Value)=>VB t.1 t.2)
def Ke (x0:Sl) (x1:Value):M (Bool):=do
 let Xx3←ZL x0 x1
 M.pure (decide (Xx3 ≥ 0))
theorem Uq (x0:Sl) (x1:Value):Kg Go.Proofs.Tryz.prog 128 #[(x0:Sl).v,x1] (fun (r:Bool)=>.bool r) (Ke x0 x1) :=
 KI [VC] [] [.B] [(0,.L x0),(1,.V x1)] .o Go.Proofs.Tryz.func128 rfl rfl ⟨rfl,rfl,trivial⟩ rfl (by kernel_rfl) (by kernel_rfl)
noncomputable def Ur:CalleeS Go.Proofs.Tryz.prog:=mkC Uk Ul [.L,.V] [.B] (fun (t:Sl × Value)=>Ke t.1 t.2) (fun (t:Sl × Value)=>Uq t.1 t.2)
def Ya (C12:Addr) (C13:Addr):M (Bool):=do
 let Xx15←ldI .i64 ((C12).add 1)
 let Xx16←M.ite (Xx15 == 0) (do
  let Xx17←ldS ((C12).add 2)
  M.pure (sEq Xx17 ByteArray.empty)
  ) (do
  M.pure false
  )
 let Xx18←M.ite Xx16 (do
  let Xx19←ldL ((C12).add 3)
  let Xx20←Ke Xx19 (Value.func (.func KB7) #[] #[.pointer (some C13)])
  M.pure (!Xx20)
  ) (do
  M.pure false
  )
 M.pure Xx18
def Nh (C61:Addr) (C62:Addr) (self1:(Int)→M (Bool)):(Int)→M (Bool):=fun s=>match s with
 | Xx60=>do
  let Xx66←ldL ((C61).add 3)
  M.ite (decide (Xx60 < (Xx66.len:Int))) (do
   let Xx69←ldL ((C61).add 3)
   let Xx70←ixL Xx69 (IntKind.wrap .i64 (Xx60 - 2)) 4
   let Xx71←ldG 4 Xx70
   let Xx72←ldL ((C61).add 3)
   let Xx73←ixL Xx72 Xx60 4
   let Xx74←ldG 4 Xx73
   let Xx75←UQ Xx71 Xx74
   M.ite (decide (Xx75 ≥ 0)) (do
    M.pure false
    ) (do
    self1 (IntKind.wrap .i64 (Xx60+2))
    )
   ) (do
   Ya C61 C62
   )
def Yc (C32:Addr) (C33:Addr) (C34:Bool) (C35:Int) (Xx31:Bool):M (Bool):=do
 M.ite Xx31 (do
  let Xx37←M.ite C34 (do
   let Xx38←ldI .i64 ((C32).add 1)
   M.pure (decide (Xx38 ≥ 1))
   ) (do
   M.pure false
   )
  let Xx39←M.ite Xx37 (do
   let Xx40←ldI .i64 ((C32).add 1)
   M.pure (decide (Xx40≤281474976710656))
   ) (do
   M.pure false
   )
  M.pure Xx39
  ) (do
  M.ite (C35 == 2) (do
   let Xx43←ldI .i64 ((C32).add 1)
   let Xx44←M.ite (Xx43 == 0) (do
    let Xx45←ldL ((C32).add 3)
    M.pure ((Xx45.len:Int) == 0)
    ) (do
    M.pure false
    )
   let Xx46←M.ite Xx44 (do
    let Xx47←ldS ((C32).add 2)
    M.pure (decide ((Xx47.size:Int)≤128))
    ) (do
    M.pure false
    )
   M.pure Xx46
   ) (do
   M.ite (C35 == 4) (do
    let Xx50←ldL ((C32).add 3)
    M.ite (decide ((Xx50.len:Int) > 256)) (do
     M.pure false
     ) (do
     Ya C32 C33
     )
    ) (do
    M.ite (C35 == 5) (do
     let Xx55←ldL ((C32).add 3)
     let Xx56←M.ite (decide ((Xx55.len:Int) > 512)) (do
      M.pure true
      ) (do
      let Xx57←ldL ((C32).add 3)
      M.pure ((Int.tmod (Xx57.len:Int) 2) == 1)
      )
     M.ite Xx56 (do
      M.pure false
      ) (do
      M.loop (Nh C32 C33) 2
      )
     ) (do
     M.pure false
     )
    )
   )
  )
def Xe (x0:Array Value) (x1:Int):M (Bool):=do
 let Xx2←mkB KB x0
 let Xx3←mkB Nb #[.int .i64 x1]
 let Xx6←ldI .i64 Xx3
 M.ite (decide (Xx6 > 8)) (do
  M.pure false
  ) (do
  let Xx9←ldS ((Xx2).add 2)
  let Xx10←M.ite (sEq Xx9 ByteArray.empty) (do
   let Xx11←ldL ((Xx2).add 3)
   M.pure ((Xx11.len:Int) == 0)
   ) (do
   M.pure false
   )
  let Xx22←ldI .i64 ((Xx2).add 0)
  M.ite (Xx22 == 1) (do
   M.pure Xx10
   ) (do
   M.ite (Xx22 == 3) (do
    let Xx27←M.ite Xx10 (do
     let Xx28←ldI .i64 ((Xx2).add 1)
     let Xx29←M.ite (Xx28 == 0) (do
      M.pure true
      ) (do
      let Xx30←ldI .i64 ((Xx2).add 1)
      M.pure (Xx30 == 1)
      )
     M.pure Xx29
     ) (do
     M.pure false
     )
    M.pure Xx27
    ) (do
    M.ite (Xx22 == 6) (do
     Yc Xx2 Xx3 Xx10 Xx22 (Xx22 == 6)
     ) (do
     Yc Xx2 Xx3 Xx10 Xx22 (Xx22 == 7)
     )
    )
   )
  )
theorem KEx (x0:Array Value) (x1:Int):Kg Go.Proofs.Tryz.prog 74 #[.agg x0,.int .i64 x1] (fun (r:Bool)=>.bool r) (Xe x0 x1) :=
 KI [Ur,Xd] [] [.B] [(0,.G x0),(1,.I .i64 x1)] (.q .o (.q .o (.q .o (.q (.q .o (.b (.q .o (.q .o (.q .o (.q .o (.q .o (.j [(2,.A),(3,.A),(5,.B),(19,.I .i64),(36,.B)] (fun (t:Addr × Addr × Bool × Int × Bool)=>Yc t.1 t.2.1 t.2.2.1 t.2.2.2.1 t.2.2.2.2) (.q .o (.q .o (.q .o (.q .o (.q .o (.q .o (.q (.q .o (.q .o (.b (.l [(2,.A),(3,.A)] [(6,.I .i64)] (fun (t:Addr × Addr)=>Nh t.1 t.2) (fun _=>.q .o (.q (.b (.q (.r [0,1,0,4,10,16,0,64,0,384,512,1056,2048] [0,1,0,4,10,16,0,64,0,384,512,1056,2048] [0,1,0,4,15,31,0,64,0,448,960,2047,4095] (.pu 0 (.pu 2 (.pu 3 (.pu 6 (.pu 8 (.pu 1 (.pu 4 (.pu 5 (.pu 7 (.pu 9 (.pu 10 (.st [11,12] (.on 11 (.pu 12 (.nx .dn)))))))))))))))) .o)) .o)))))) .o))))))))))))))) (.j [(2,.A),(3,.A)] (fun (t:Addr × Addr)=>Ya t.1 t.2) .o))))) Go.Proofs.Tryz.func74 rfl rfl ⟨rfl,rfl,trivial⟩ rfl (by kernel_rfl) (by kernel_rfl)
noncomputable def KBe:CalleeS Go.Proofs.Tryz.prog:=mkC KD1 KD7 [.G,.I .i64] [.B] (fun (t:Array Value × Int)=>Xe t.1 t.2) (fun (t:Array Value × Int)=>KEx t.1 t.2)
def YJ (x0:Array Value):M (Int):=do
 let Xx2←mkB KB x0
 let Xx5←ldG 4 Xx2
 let Xx6←Xe Xx5 1
 M.ite (!Xx6) (do
  M.pure 20
  ) (do
  M.pure 0
  )
theorem KDB (x0:Array Value):Kg Go.Proofs.Tryz.prog 16 #[.agg x0] (fun (r:Int)=>.int .i64 r) (YJ x0) :=
 KI [KBe] [] [.I .i64] [(0,.G x0)] .o Go.Proofs.Tryz.func16 rfl rfl ⟨rfl,trivial⟩ rfl (by kernel_rfl) (by kernel_rfl)
noncomputable def zk:CalleeS Go.Proofs.Tryz.prog:=mkC KB5 KCA [.G] [.I .i64] (fun (t:Array Value)=>YJ t) (fun (t:Array Value)=>KDB t)
def Xf (x0:ByteArray):M (Array Value × Int × Int):=do
 let Xx2←mkB KB (#[.int .i64 0,.int .i64 0,.string ByteArray.empty,.slice none 0 0]:Array Value)
 let Xx4←Nz Go.Proofs.Tryz.prog XG #[.string x0] (fun r:Array Value × Int × Bool=>.tuple #[.agg r.1,.int .i64 r.2.1,.bool r.2.2])
 let Xx5←mkB KB (#[.int .i64 0,.int .i64 0,.string ByteArray.empty,.slice none 0 0]:Array Value)
 M.need (Xx4.1.size=4)
 stG Xx5 Xx4.1
 M.ite (!Xx4.2.2) (do
  M.need ((#[.int .i64 0,.int .i64 0,.string ByteArray.empty,.slice none 0 0]:Array Value).size=4)
  stG Xx2 (#[.int .i64 0,.int .i64 0,.string ByteArray.empty,.slice none 0 0]:Array Value)
  let Rr11←ldG 4 Xx2
  M.pure (Rr11,Xx4.2.1,22)
  ) (do
  let Xx13←ldG 4 Xx5
  let Xx14←YJ Xx13
  M.ite (Xx14 != 0) (do
   M.need ((#[.int .i64 0,.int .i64 0,.string ByteArray.empty,.slice none 0 0]:Array Value).size=4)
   stG Xx2 (#[.int .i64 0,.int .i64 0,.string ByteArray.empty,.slice none 0 0]:Array Value)
   let Rr17←ldG 4 Xx2
   M.pure (Rr17,0,20)
   ) (do
   let Xx19←ldG 4 Xx5
   M.need (Xx19.size=4)
   stG Xx2 Xx19
   let Rr21←ldG 4 Xx2
   M.pure (Rr21,0,0)
   )
  )
theorem KDC (x0:ByteArray):Kg Go.Proofs.Tryz.prog 17 #[.string x0] (fun (r:Array Value × Int × Int)=>.tuple #[.agg r.1,.int .i64 r.2.1,.int .i64 r.2.2]) (Xf x0) :=
 KI [zk,mkC XG KC7 [.S] [.G,.I .i64,.B] (fun (t:ByteArray)=>Nz Go.Proofs.Tryz.prog XG #[.string t] (fun r:Array Value × Int × Bool=>.tuple #[.agg r.1,.int .i64 r.2.1,.bool r.2.2])) (fun (t:ByteArray)=>WD)] [] [.G,.I .i64,.I .i64] [(0,.S x0)] .o Go.Proofs.Tryz.func17 rfl rfl ⟨rfl,trivial⟩ rfl (by kernel_rfl) (by kernel_rfl)
noncomputable def KDD:CalleeS Go.Proofs.Tryz.prog:=mkC KB6 KCC [.S] [.G,.I .i64,.I .i64] (fun (t:ByteArray)=>Xf t) (fun (t:ByteArray)=>KDC t)
def Z9 (x0:Int) (x1:Int):M (ByteArray):=do
 let Xx3←Nz Go.Proofs.Tryz.prog Jk #[.int .i64 x0,.int .i64 x1] (fun r:ByteArray=>.string r)
 M.pure Xx3
theorem qp (x0:Int) (x1:Int):Kg Go.Proofs.Tryz.prog 156 #[.int .i64 x0,.int .i64 x1] (fun (r:ByteArray)=>.string r) (Z9 x0 x1) :=
 KI [mkC Jk Yu [.I .i64,.I .i64] [.S] (fun (t:Int × Int)=>Nz Go.Proofs.Tryz.prog Jk #[.int .i64 t.1,.int .i64 t.2] (fun r:ByteArray=>.string r)) (fun (t:Int × Int)=>WD)] [] [.S] [(0,.I .i64 x0),(1,.I .i64 x1)] .o Go.Proofs.Tryz.func156 rfl rfl ⟨rfl,rfl,trivial⟩ rfl (by kernel_rfl) (by kernel_rfl)
noncomputable def Xg:CalleeS Go.Proofs.Tryz.prog:=mkC N4 N8 [.I .i64,.I .i64] [.S] (fun (t:Int × Int)=>Z9 t.1 t.2) (fun (t:Int × Int)=>qp t.1 t.2)
def Gz (x0:Int):M (ByteArray):=do
 let Xx3←Z9 x0 10
 M.pure Xx3
theorem KGS (x0:Int):Kg Go.Proofs.Tryz.prog 109 #[.int .i64 x0] (fun (r:ByteArray)=>.string r) (Gz x0) :=
 KI [Xg] [] [.S] [(0,.I .i64 x0)] .o Go.Proofs.Tryz.func109 rfl rfl ⟨rfl,trivial⟩ rfl (by kernel_rfl) (by kernel_rfl)
noncomputable def KGT:CalleeS Go.Proofs.Tryz.prog:=mkC KEs KEv [.I .i64] [.S] (fun (t:Int)=>Gz t) (fun (t:Int)=>KGS t)
def KU (x0:Option Addr) (x1:ByteArray):M (Int × Value):=do
 let Xx3←K0 x0
 let Xx5←nilP x0
 let Xx6←ldL ((Xx5).add 1)
 let Xx7←apS ZG Xx6 x1
 let Xx8←nilP x0
 stV ((Xx8).add 1) ((Xx7:Sl).v)
 M.pure ((x1.size:Int),Value.nilIface)
theorem Y2 (x0:Option Addr) (x1:ByteArray):Kg Go.Proofs.Tryz.prog 95 #[.pointer x0,.string x1] (fun (r:Int × Value)=>.tuple #[.int .i64 r.1,r.2]) (KU x0 x1) :=
 KI [mkC Jy Jz [.P] [] (fun (t:Option Addr)=>K0 t) (fun (t:Option Addr)=>J5 t)] [0,6,8,9] [.I .i64,.V] [(0,.P x0),(1,.S x1)] .o Go.Proofs.Tryz.func95 rfl rfl ⟨rfl,rfl,trivial⟩ rfl (by kernel_rfl) (by kernel_rfl)
noncomputable def Uw:CalleeS Go.Proofs.Tryz.prog:=mkC YX YZ [.P,.S] [.I .i64,.V] (fun (t:Option Addr × ByteArray)=>KU t.1 t.2) (fun (t:Option Addr × ByteArray)=>Y2 t.1 t.2)
def Kl (x0:Option Addr) (x1:Int):M (Value):=do
 let Xx3←K0 x0
 let Xx5←nilP x0
 let Xx6←ldL ((Xx5).add 1)
 let Xx7←bdL ZG 1 #[.int .u8 x1]
 let Xx8←apL ZG 1 1 (#[.int .u8 0]:Array Value) Xx6 Xx7
 let Xx9←nilP x0
 stV ((Xx9).add 1) ((Xx8:Sl).v)
 M.pure Value.nilIface
theorem Xh (x0:Option Addr) (x1:Int):Kg Go.Proofs.Tryz.prog 96 #[.pointer x0,.int .u8 x1] (fun (r:Value)=>r) (Kl x0 x1) :=
 KI [mkC Jy Jz [.P] [] (fun (t:Option Addr)=>K0 t) (fun (t:Option Addr)=>J5 t)] [0,5,7,8] [.V] [(0,.P x0),(1,.I .u8 x1)] .o Go.Proofs.Tryz.func96 rfl rfl ⟨rfl,rfl,trivial⟩ rfl (by kernel_rfl) (by kernel_rfl)
noncomputable def Xi:CalleeS Go.Proofs.Tryz.prog:=mkC XF XK [.P,.I .u8] [.V] (fun (t:Option Addr × Int)=>Kl t.1 t.2) (fun (t:Option Addr × Int)=>Xh t.1 t.2)
def Z0 (x0:Option Addr):M (ByteArray):=do
 let Xx3←nilP x0
 let Xx4←nilP x0
 let Xx5←ldL ((Xx3).add 1)
 let Xx6←ldL ((Xx4).add 1)
 let Xx7←uSD Xx5
 let Xx8←uStr ZG Xx7 (Xx6.len:Int)
 M.pure Xx8
theorem GO (x0:Option Addr):Kg Go.Proofs.Tryz.prog 97 #[.pointer x0] (fun (r:ByteArray)=>.string r) (Z0 x0) :=
 KI [] [0,3,7,8] [.S] [(0,.P x0)] (.q .o (.q (.r [0,1,2,4,8,0,32,64,128,256,528,2047] [0,1,2,4,8,0,32,64,128,256,528,1024] [0,1,3,7,15,0,32,96,224,480,1023,2047] (.pu 0 (.pu 1 (.pu 2 (.pu 5 (.pu 6 (.pu 7 (.pu 3 (.pu 8 (.pu 9 (.st [10,11] (.on 4 (.on 10 (.pu 11 (.nx .dn))))))))))))))) .o)) Go.Proofs.Tryz.func97 rfl rfl ⟨rfl,trivial⟩ rfl (by kernel_rfl) (by kernel_rfl)
noncomputable def WU:CalleeS Go.Proofs.Tryz.prog:=mkC GA GC [.P] [.S] (fun (t:Option Addr)=>Z0 t) (fun (t:Option Addr)=>GO t)
def U2 (self1:(Int)→M (ByteArray)) (C19:Int):M (ByteArray):=do
 self1 (IntKind.wrap .i64 (C19+1))
def GE (C10:Addr) (C11:Sl) (C12:Int) (self1:(Int)→M (ByteArray)):(Int)→M (ByteArray):=fun s=>match s with
 | Xx9=>do
  M.ite (decide (Xx9 < C12)) (do
   let Xx21←ixL C11 Xx9 1
   let Xx22←ldI .u8 Xx21
   let Xx24←M.ite (decide (Xx22 < 32)) (do
    M.pure true
    ) (do
    M.pure (decide (Xx22 > 126))
    )
   M.ite Xx24 (do
    let Xx26←KU (some C10) (⟨#[92,120]⟩:ByteArray)
    let Xx28←Z9 (IntKind.wrap .i64 (iShr .u8 Xx22 4)) 16
    let Xx29←KU (some C10) Xx28
    let Xx30←Z9 (IntKind.wrap .i64 (iAnd .u8 Xx22 15)) 16
    let Xx31←KU (some C10) Xx30
    U2 self1 Xx9
    ) (do
    let Xx33←M.ite (Xx22 == 39) (do
     M.pure true
     ) (do
     M.pure (Xx22 == 92)
     )
    M.ite Xx33 (do
     let Xx35←Kl (some C10) 92
     let Xx36←Kl (some C10) Xx22
     U2 self1 Xx9
     ) (do
     let Xx37←Kl (some C10) Xx22
     U2 self1 Xx9
     )
    )
   ) (do
   let Xx39←Kl (some C10) 39
   let Xx41←Z0 (some C10)
   M.pure Xx41
   )
def Xj (x0:ByteArray):M (ByteArray):=do
 let Xx3←mkB JH (#[.pointer none,.slice none 0 0]:Array Value)
 let Xx5←Kl (some Xx3) 39
 let Xx8←s2b ZG x0
 M.loop (GE Xx3 Xx8 (Xx8.len:Int)) 0
theorem KDE (x0:ByteArray):Kg Go.Proofs.Tryz.prog 133 #[.string x0] (fun (r:ByteArray)=>.string r) (Xj x0) :=
 KI [Xg,Uw,Xi,WU] [] [.S] [(0,.S x0)] (.q .o (.q .o (.q .o (.q (.q .o (.b (.l [(3,.A),(8,.L),(9,.I .i64)] [(10,.I .i64)] (fun (t:Addr × Sl × Int)=>GE t.1 t.2.1 t.2.2) (fun self1=>.q .o (.q .o (.q .o (.j [(3,.A),(8,.L),(9,.I .i64),(10,.I .i64)] (fun (t:Addr × Sl × Int × Int)=>U2 self1 t.2.2.2) .o))))))) .o)))) Go.Proofs.Tryz.func133 rfl rfl ⟨rfl,trivial⟩ rfl (by kernel_rfl) (by kernel_rfl)
noncomputable def KDF:CalleeS Go.Proofs.Tryz.prog:=mkC KB8 KCE [.S] [.S] (fun (t:ByteArray)=>Xj t) (fun (t:ByteArray)=>KDE t)
def UY (x0:Option Addr) (x1:Int):M (Unit):=do
 let Xx2←nilP x0
 let Xx3←nilP x0
 let Xx4←ldL ((Xx2).add 1)
 let Xx5←ldL ((Xx3).add 1)
 let Xx6←mnz ZG (IntKind.wrap .i64 ((IntKind.wrap .i64 (2 * (Xx4.cap:Int)))+x1))
 chk (fun h:Heap=>(KO h ((Xx2).add 1)=some ((Xx4:Sl).v))∧(KO h ((Xx3).add 1)=some ((Xx5:Sl).v)))
 let Xx7←slL Xx6 0 (Xx5.len:Int) 1
 let Xx9←nilP x0
 let Xx10←ldL ((Xx9).add 1)
 let Xx11←cpL 1 Xx7 Xx10
 let Xx12←nilP x0
 stV ((Xx12).add 1) ((Xx7:Sl).v)
 M.pure ()
theorem NJ (x0:Option Addr) (x1:Int):Kg Go.Proofs.Tryz.prog 219 #[.pointer x0,.int .i64 x1] (fun (r:Unit)=>.tuple #[]) (UY x0 x1) :=
 KI [KM1 YV #[3] 35 5 Go.Proofs.Tryz.func243 (by kernel_rfl) (by kernel_rfl) (by kernel_rfl) (by kernel_rfl) un35] [0,5,14,21,26] [] [(0,.P x0),(1,.I .i64 x1)] (.q (.r [0,1,2,4,8,16,0,96,128,0,512,1024,2048,4096,8448,32767] [0,1,2,4,8,16,0,96,128,0,512,1024,2048,4096,8448,16384] [0,1,3,7,15,31,0,127,255,0,512,1536,3584,7680,16383,32767] (.pu 0 (.pu 1 (.pu 2 (.pu 6 (.pu 9 (.pu 10 (.pu 11 (.pu 3 (.pu 4 (.pu 5 (.pu 7 (.pu 12 (.pu 13 (.st [14,15] (.on 8 (.pu 14 (.pu 15 (.nx .dn))))))))))))))))))) .o) Go.Proofs.Tryz.func219 rfl rfl ⟨rfl,rfl,trivial⟩ rfl (by kernel_rfl) (by kernel_rfl)
noncomputable def NK:CalleeS Go.Proofs.Tryz.prog:=mkC Gn Gr [.P,.I .i64] [] (fun (t:Option Addr × Int)=>UY t.1 t.2) (fun (t:Option Addr × Int)=>NJ t.1 t.2)
def Jp (x0:Option Addr) (x1:Int):M (Unit):=do
 let Xx2←K0 x0
 M.ite (decide (x1 < 0)) (do
  M.fail
  ) (do
  let Xx6←nilP x0
  let Xx7←nilP x0
  let Xx8←ldL ((Xx6).add 1)
  let Xx9←ldL ((Xx7).add 1)
  M.ite (decide ((IntKind.wrap .i64 ((Xx8.cap:Int) - (Xx9.len:Int))) < x1)) (do
   let Xx10←UY x0 x1
   M.pure ()
   ) (do
   M.pure ()
   )
  )
theorem NL (x0:Option Addr) (x1:Int):Kg Go.Proofs.Tryz.prog 177 #[.pointer x0,.int .i64 x1] (fun (r:Unit)=>.tuple #[]) (Jp x0 x1) :=
 KI [mkC Jy Jz [.P] [] (fun (t:Option Addr)=>K0 t) (fun (t:Option Addr)=>J5 t),NK] [0,4,9,14,22] [] [(0,.P x0),(1,.I .i64 x1)] (.q .o (.q .o (.q (.r [0,1,2,4,8,0,32,64,128,256,528,0,3072] [0,1,2,4,8,0,32,64,128,256,528,0,3072] [0,1,3,7,15,0,32,96,224,480,1023,0,4095] (.pu 0 (.pu 1 (.pu 2 (.pu 5 (.pu 6 (.pu 7 (.pu 11 (.pu 3 (.pu 4 (.pu 8 (.pu 9 (.pu 10 (.pu 12 (.st [10,12] .dn))))))))))))))) .o))) Go.Proofs.Tryz.func177 rfl rfl ⟨rfl,rfl,trivial⟩ rfl (by kernel_rfl) (by kernel_rfl)
noncomputable def NM:CalleeS Go.Proofs.Tryz.prog:=mkC Gm Gq [.P,.I .i64] [] (fun (t:Option Addr × Int)=>Jp t.1 t.2) (fun (t:Option Addr × Int)=>NL t.1 t.2)
def Xk (C43:ByteArray) (C44:Addr) (C45:Sl) (C46:Int) (self2:(Int)→M (ByteArray)):(Int)→M (ByteArray):=fun s=>match s with
 | Xx42=>do
  M.ite (decide (Xx42 < C46)) (do
   let Xx52←ixL C45 Xx42 1
   let Xx53←ldS Xx52
   let Xx55←KU (some C44) C43
   let Xx56←KU (some C44) Xx53
   self2 (IntKind.wrap .i64 (Xx42+1))
   ) (do
   let Xx58←Z0 (some C44)
   M.pure Xx58
   )
def Xl (C18:Sl) (C19:ByteArray) (C20:Sl) (C21:Int) (self1:(Int × Int)→M (ByteArray)):(Int × Int)→M (ByteArray):=fun s=>match s with
 | (Xx16,Xx17)=>do
  M.ite (decide (Xx17 < C21)) (do
   let Xx27←ixL C20 Xx17 1
   let Xx28←ldS Xx27
   M.ite (decide ((Xx28.size:Int) > (IntKind.wrap .i64 (9223372036854775807 - Xx16)))) (do
    M.fail
    ) (do
    self1 (IntKind.wrap .i64 (Xx16+(Xx28.size:Int)),IntKind.wrap .i64 (Xx17+1))
    )
   ) (do
   let Xx32←mkB JH (#[.pointer none,.slice none 0 0]:Array Value)
   let Xx34←Jp (some Xx32) Xx16
   let Xx36←ixL C18 0 1
   let Xx37←ldS Xx36
   let Xx38←KU (some Xx32) Xx37
   let Xx41←slL C18 1 C18.len 1
   M.loop (Xk C19 Xx32 Xx41 (Xx41.len:Int)) 0
   )
def Wi (C12:Sl) (C13:ByteArray) (Xx11:Int):M (ByteArray):=do
 M.loop (Xl C12 C13 C12 (C12.len:Int)) (Xx11,0)
def Yd (x0:Sl) (x1:ByteArray):M (ByteArray):=do
 M.ite ((x0.len:Int) == 0) (do
  M.pure ByteArray.empty
  ) (do
  M.ite ((x0.len:Int) == 1) (do
   let Xx8←ixL x0 0 1
   let Xx9←ldS Xx8
   M.pure Xx9
   ) (do
   M.ite (decide ((x1.size:Int) > 0)) (do
    let Xx62←pQuo .i64 9223372036854775807 (IntKind.wrap .i64 ((x0.len:Int) - 1))
    M.ite (decide ((x1.size:Int) ≥ Xx62)) (do
     M.fail
     ) (do
     Wi x0 x1 (IntKind.wrap .i64 (0+(IntKind.wrap .i64 ((x1.size:Int) * (IntKind.wrap .i64 ((x0.len:Int) - 1))))))
     )
    ) (do
    Wi x0 x1 0
    )
   )
  )
theorem KCI (x0:Sl) (x1:ByteArray):Kg Go.Proofs.Tryz.prog 134 #[(x0:Sl).v,.string x1] (fun (r:ByteArray)=>.string r) (Yd x0 x1) :=
 KI [NM,Uw,WU] [] [.S] [(0,.L x0),(1,.S x1)] (.q .o (.q .o (.q .o (.q .o (.j [(0,.L),(1,.S),(5,.I .i64)] (fun (t:Sl × ByteArray × Int)=>Wi t.1 t.2.1 t.2.2) (.q (.q .o (.b (.l [(0,.L),(1,.S),(39,.L),(40,.I .i64)] [(5,.I .i64),(41,.I .i64)] (fun (t:Sl × ByteArray × Sl × Int)=>Xl t.1 t.2.1 t.2.2.1 t.2.2.2) (fun _=>.o)))) (.q .o (.q .o (.q .o (.q (.q .o (.b (.l [(1,.S),(8,.A),(63,.L),(64,.I .i64)] [(65,.I .i64)] (fun (t:ByteArray × Addr × Sl × Int)=>Xk t.1 t.2.1 t.2.2.1 t.2.2.2) (fun _=>.o)))) .o)))))))))) Go.Proofs.Tryz.func134 rfl rfl ⟨rfl,rfl,trivial⟩ rfl (by kernel_rfl) (by kernel_rfl)
noncomputable def KCJ:CalleeS Go.Proofs.Tryz.prog:=mkC KBU KBX [.L,.S] [.S] (fun (t:Sl × ByteArray)=>Yd t.1 t.2) (fun (t:Sl × ByteArray)=>KCI t.1 t.2)
def Wj (self1:(Sl × Int)→M (ByteArray)) (C56:Int) (Xx51:Sl):M (ByteArray):=do
 self1 (Xx51,IntKind.wrap .i64 (C56+1))
def G0 (C44:Int) (C45:Addr) (C46:Sl) (C47:Int) (self1:(Sl × Int)→M (ByteArray)):(Sl × Int)→M (ByteArray):=fun s=>match s with
 | (Xx42,Xx43)=>do
  M.ite (decide (Xx43 < C47)) (do
   let Xx58←ixL C46 Xx43 4
   let Xx59←ldG 4 Xx58
   let Xx60←mkB KB (#[.int .i64 0,.int .i64 0,.string ByteArray.empty,.slice none 0 0]:Array Value)
   M.need (Xx59.size=4)
   stG Xx60 Xx59
   let Xx63←ldG 4 Xx60
   let Xx64←Nz Go.Proofs.Tryz.prog XH #[.agg Xx63,.int .i64 (IntKind.wrap .i64 (C44+1))] (fun r:ByteArray=>.string r)
   let Xx66←ldI .i64 ((C45).add 0)
   let Xx67←M.ite (Xx66 == 5) (do
    M.pure ((Int.tmod Xx43 2) == 1)
    ) (do
    M.pure false
    )
   M.ite Xx67 (do
    let Xx68←ixL Xx42 (IntKind.wrap .i64 ((Xx42.len:Int) - 1)) 1
    let Xx69←ldS Xx68
    let Xx70←sCat (⟨#[58,32]⟩:ByteArray) Xx64
    let Xx71←sCat Xx69 Xx70
    let Xx72←ixL Xx42 (IntKind.wrap .i64 ((Xx42.len:Int) - 1)) 1
    stV Xx72 (.string Xx71)
    Wj self1 Xx43 Xx42
    ) (do
    let Xx74←bdL GM 1 #[.string Xx64]
    let Xx75←apL GM 1 16 (#[.string ByteArray.empty]:Array Value) Xx42 Xx74
    Wj self1 Xx43 Xx75
    )
   ) (do
   let Xx77←Yd Xx42 (⟨#[44,32]⟩:ByteArray)
   let Xx80←ldI .i64 ((C45).add 0)
   M.ite (Xx80 == 5) (do
    let Xx82←sCat (⟨#[123]⟩:ByteArray) Xx77
    let Xx83←sCat Xx82 (⟨#[125]⟩:ByteArray)
    M.pure Xx83
    ) (do
    let Xx85←sCat (⟨#[91]⟩:ByteArray) Xx77
    let Xx86←sCat Xx85 (⟨#[93]⟩:ByteArray)
    M.pure Xx86
    )
   )
def Wk (C36:Int) (C37:Addr) (Xx35:Bool):M (ByteArray):=do
 M.ite Xx35 (do
  let Xx41←ldL ((C37).add 3)
  M.loop (G0 C36 C37 Xx41 (Xx41.len:Int)) (Sl.nil,0)
  ) (do
  M.pure (⟨#[63]⟩:ByteArray)
  )
def XY (x0:Array Value) (x1:Int):M (ByteArray):=do
 let Xx2←mkB KB x0
 M.ite (decide (x1 > 8)) (do
  M.pure (⟨#[63]⟩:ByteArray)
  ) (do
  let Xx8←ldI .i64 ((Xx2).add 0)
  M.ite (Xx8 == 1) (do
   let Xx11←ldI .i64 ((Xx2).add 1)
   let Xx12←Gz Xx11
   M.pure Xx12
   ) (do
   M.ite (Xx8 == 2) (do
    let Xx15←ldS ((Xx2).add 2)
    let Xx16←Xj Xx15
    M.pure Xx16
    ) (do
    M.ite (Xx8 == 3) (do
     let Xx20←ldI .i64 ((Xx2).add 1)
     M.ite (Xx20 == 1) (do
      M.pure (⟨#[116,114,117,101]⟩:ByteArray)
      ) (do
      M.pure (⟨#[102,97,108,115,101]⟩:ByteArray)
      )
     ) (do
     M.ite (Xx8 == 6) (do
      let Xx25←ldI .i64 ((Xx2).add 1)
      let Xx26←Gz Xx25
      let Xx27←sCat (⟨#[118,91]⟩:ByteArray) Xx26
      let Xx28←sCat Xx27 (⟨#[93]⟩:ByteArray)
      M.pure Xx28
      ) (do
      M.ite (Xx8 == 7) (do
       let Xx31←ldI .i64 ((Xx2).add 1)
       let Xx32←Gz Xx31
       let Xx33←sCat (⟨#[101,91]⟩:ByteArray) Xx32
       let Xx34←sCat Xx33 (⟨#[93]⟩:ByteArray)
       M.pure Xx34
       ) (do
       M.ite (Xx8 == 4) (do
        Wk x1 Xx2 (Xx8 == 4)
        ) (do
        Wk x1 Xx2 (Xx8 == 5)
        )
       )
      )
     )
    )
   )
  )
theorem KAw (x0:Array Value) (x1:Int):Kg Go.Proofs.Tryz.prog 76 #[.agg x0,.int .i64 x1] (fun (r:ByteArray)=>.string r) (XY x0 x1) :=
 KI [KGT,KDF,KCJ,mkC XH zi [.G,.I .i64] [.S] (fun (t:Array Value × Int)=>Nz Go.Proofs.Tryz.prog XH #[.agg t.1,.int .i64 t.2] (fun r:ByteArray=>.string r)) (fun (t:Array Value × Int)=>WD)] [] [.S] [(0,.G x0),(1,.I .i64 x1)] (.q .o (.q .o (.q (.q .o (.b (.q .o (.q .o (.q .o (.q .o (.q .o (.q .o (.q .o (.q .o (.q .o (.q .o (.q .o (.j [(1,.I .i64),(2,.A),(43,.B)] (fun (t:Int × Addr × Bool)=>Wk t.1 t.2.1 t.2.2) .o)))))))))))))) (.q .o (.q (.q .o (.b (.l [(1,.I .i64),(2,.A),(47,.L),(48,.I .i64)] [(5,.L),(49,.I .i64)] (fun (t:Int × Addr × Sl × Int)=>G0 t.1 t.2.1 t.2.2.1 t.2.2.2) (fun self1=>.q .o (.q .o (.q .o (.j [(1,.I .i64),(2,.A),(47,.L),(48,.I .i64),(49,.I .i64),(5,.L)] (fun (t:Int × Addr × Sl × Int × Int × Sl)=>Wj self1 t.2.2.2.2.1 t.2.2.2.2.2) .o))))))) .o))))) Go.Proofs.Tryz.func76 rfl rfl ⟨rfl,rfl,trivial⟩ rfl (by kernel_rfl) (by kernel_rfl)
noncomputable def KEA:CalleeS Go.Proofs.Tryz.prog:=mkC XH zi [.G,.I .i64] [.S] (fun (t:Array Value × Int)=>XY t.1 t.2) (fun (t:Array Value × Int)=>KAw t.1 t.2)
def GP (x0:Array Value):M (ByteArray):=do
 let Xx2←mkB KB x0
 let Xx4←ldG 4 Xx2
 let Xx5←XY Xx4 1
 M.pure Xx5
theorem KEB (x0:Array Value):Kg Go.Proofs.Tryz.prog 18 #[.agg x0] (fun (r:ByteArray)=>.string r) (GP x0) :=
 KI [KEA] [] [.S] [(0,.G x0)] .o Go.Proofs.Tryz.func18 rfl rfl ⟨rfl,trivial⟩ rfl (by kernel_rfl) (by kernel_rfl)
noncomputable def KEC:CalleeS Go.Proofs.Tryz.prog:=mkC KC0 KC5 [.G] [.S] (fun (t:Array Value)=>GP t) (fun (t:Array Value)=>KEB t)
def Zf (x0:Int) (x1:Int):M (Int):=do
 M.ite (decide (x0 < x1)) (do
  M.pure (-1)
  ) (do
  M.ite (decide (x0 > x1)) (do
   M.pure 1
   ) (do
   M.pure 0
   )
  )
theorem KAQ (x0:Int) (x1:Int):Kg Go.Proofs.Tryz.prog 85 #[.int .i64 x0,.int .i64 x1] (fun (r:Int)=>.int .i64 r) (Zf x0 x1) :=
 KI [] [] [.I .i64] [(0,.I .i64 x0),(1,.I .i64 x1)] .o Go.Proofs.Tryz.func85 rfl rfl ⟨rfl,rfl,trivial⟩ rfl (by kernel_rfl) (by kernel_rfl)
noncomputable def GQ:CalleeS Go.Proofs.Tryz.prog:=mkC zT zf [.I .i64,.I .i64] [.I .i64] (fun (t:Int × Int)=>Zf t.1 t.2) (fun (t:Int × Int)=>KAQ t.1 t.2)
def WL (C5:ByteArray) (C6:ByteArray) (self1:(Int)→M (Int)):(Int)→M (Int):=fun s=>match s with
 | Xx4=>do
  let Xx10←M.ite (decide (Xx4 < (C5.size:Int))) (do
   M.pure (decide (Xx4 < (C6.size:Int)))
   ) (do
   M.pure false
   )
  M.ite Xx10 (do
   let Xx13←ixS C5 Xx4
   let Xx14←ixS C6 Xx4
   M.ite (Xx13 != Xx14) (do
    let Xx16←ixS C5 Xx4
    let Xx17←ixS C6 Xx4
    let Xx18←Zf (IntKind.wrap .i64 Xx16) (IntKind.wrap .i64 Xx17)
    M.pure Xx18
    ) (do
    self1 (IntKind.wrap .i64 (Xx4+1))
    )
   ) (do
   let Xx20←Zf (C5.size:Int) (C6.size:Int)
   M.pure Xx20
   )
def Ux (x0:ByteArray) (x1:ByteArray):M (Int):=do
 M.loop (WL x0 x1) 0
theorem zl (x0:ByteArray) (x1:ByteArray):Kg Go.Proofs.Tryz.prog 86 #[.string x0,.string x1] (fun (r:Int)=>.int .i64 r) (Ux x0 x1) :=
 KI [GQ] [] [.I .i64] [(0,.S x0),(1,.S x1)] (.q .o (.q (.q .o (.b (.l [(0,.S),(1,.S)] [(5,.I .i64)] (fun (t:ByteArray × ByteArray)=>WL t.1 t.2) (fun _=>.q .o (.q (.b (.q (.r [0,0,3,0,0,24,36] [0,0,3,0,0,24,36] [0,0,3,0,0,24,63] (.pu 0 (.pu 1 (.pu 2 (.pu 3 (.pu 4 (.pu 5 (.pu 6 (.st [0,1,2,3,4,5,6] .dn))))))))) (.q (.q (.r [0,0,3,4,0,0,48,64,136,511] [0,0,3,4,0,0,48,64,136,256] [0,0,3,7,0,0,48,112,255,511] (.pu 0 (.pu 1 (.pu 2 (.pu 3 (.pu 4 (.pu 5 (.pu 6 (.pu 7 (.st [0,1,2,3,4,5,6,7,8,9] (.on 8 (.pu 9 (.nx .dn))))))))))))) .o) .o))) .o))))) .o)) Go.Proofs.Tryz.func86 rfl rfl ⟨rfl,rfl,trivial⟩ rfl (by kernel_rfl) (by kernel_rfl)
noncomputable def zm:CalleeS Go.Proofs.Tryz.prog:=mkC qa qj [.S,.S] [.I .i64] (fun (t:ByteArray × ByteArray)=>Ux t.1 t.2) (fun (t:ByteArray × ByteArray)=>zl t.1 t.2)
def U5 (C28:Addr) (C29:Addr) (self1:(Int)→M (Int)):(Int)→M (Int):=fun s=>match s with
 | Xx27=>do
  let Xx33←ldL ((C28).add 3)
  let Xx34←M.ite (decide (Xx27 < (Xx33.len:Int))) (do
   let Xx35←ldL ((C29).add 3)
   M.pure (decide (Xx27 < (Xx35.len:Int)))
   ) (do
   M.pure false
   )
  M.ite Xx34 (do
   let Xx38←ldL ((C28).add 3)
   let Xx39←ixL Xx38 Xx27 4
   let Xx40←ldG 4 Xx39
   let Xx41←ldL ((C29).add 3)
   let Xx42←ixL Xx41 Xx27 4
   let Xx43←ldG 4 Xx42
   let Xx44←Nz Go.Proofs.Tryz.prog UA #[.agg Xx40,.agg Xx43] (fun r:Int=>.int .i64 r)
   M.ite (Xx44 != 0) (do
    M.pure Xx44
    ) (do
    self1 (IntKind.wrap .i64 (Xx27+1))
    )
   ) (do
   let Xx48←ldL ((C28).add 3)
   let Xx49←ldL ((C29).add 3)
   let Xx50←Zf (Xx48.len:Int) (Xx49.len:Int)
   M.pure Xx50
   )
def Z6 (x0:Array Value) (x1:Array Value):M (Int):=do
 let Xx2←mkB KB x0
 let Xx3←mkB KB x1
 let Xx6←ldI .i64 ((Xx2).add 0)
 let Xx7←ldI .i64 ((Xx3).add 0)
 let Xx8←Zf Xx6 Xx7
 M.ite (Xx8 != 0) (do
  M.pure Xx8
  ) (do
  let Xx13←ldI .i64 ((Xx2).add 1)
  let Xx14←ldI .i64 ((Xx3).add 1)
  let Xx15←Zf Xx13 Xx14
  M.ite (Xx15 != 0) (do
   M.pure Xx15
   ) (do
   let Xx20←ldS ((Xx2).add 2)
   let Xx21←ldS ((Xx3).add 2)
   let Xx22←Ux Xx20 Xx21
   M.ite (Xx22 != 0) (do
    M.pure Xx22
    ) (do
    M.loop (U5 Xx2 Xx3) 0
    )
   )
  )
theorem Ye (x0:Array Value) (x1:Array Value):Kg Go.Proofs.Tryz.prog 38 #[.agg x0,.agg x1] (fun (r:Int)=>.int .i64 r) (Z6 x0 x1) :=
 KI [mkC UA W9 [.G,.G] [.I .i64] (fun (t:Array Value × Array Value)=>Nz Go.Proofs.Tryz.prog UA #[.agg t.1,.agg t.2] (fun r:Int=>.int .i64 r)) (fun (t:Array Value × Array Value)=>WD),GQ,zm] [] [.I .i64] [(0,.G x0),(1,.G x1)] (.q .o (.q .o (.q .o (.q .o (.q (.q .o (.b (.l [(2,.A),(3,.A)] [(8,.I .i64)] (fun (t:Addr × Addr)=>U5 t.1 t.2) (fun _=>.q .o (.q (.b (.q (.r [0,1,0,6,8,0,32,0,192,256,528,2047] [0,1,0,6,8,0,32,0,192,256,528,1024] [0,1,0,7,15,0,32,0,224,480,1023,2047] (.pu 0 (.pu 2 (.pu 5 (.pu 7 (.pu 1 (.pu 3 (.pu 4 (.pu 6 (.pu 8 (.pu 9 (.st [10,11] (.on 10 (.pu 11 (.nx .dn))))))))))))))) .o)) .o))))) .o))))) Go.Proofs.Tryz.func38 rfl rfl ⟨rfl,rfl,trivial⟩ rfl (by kernel_rfl) (by kernel_rfl)
noncomputable def Yf:CalleeS Go.Proofs.Tryz.prog:=mkC UA W9 [.G,.G] [.I .i64] (fun (t:Array Value × Array Value)=>Z6 t.1 t.2) (fun (t:Array Value × Array Value)=>Ye t.1 t.2)
def Z4 (x0:Array Value) (x1:Array Value):M (Bool):=do
 let Xx2←mkB KB x0
 let Xx3←mkB KB x1
 let Xx5←ldG 4 Xx2
 let Xx6←ldG 4 Xx3
 let Xx7←Z6 Xx5 Xx6
 M.pure (Xx7 == 0)
theorem zn (x0:Array Value) (x1:Array Value):Kg Go.Proofs.Tryz.prog 19 #[.agg x0,.agg x1] (fun (r:Bool)=>.bool r) (Z4 x0 x1) :=
 KI [Yf] [] [.B] [(0,.G x0),(1,.G x1)] .o Go.Proofs.Tryz.func19 rfl rfl ⟨rfl,rfl,trivial⟩ rfl (by kernel_rfl) (by kernel_rfl)
noncomputable def X6:CalleeS Go.Proofs.Tryz.prog:=mkC qY qg [.G,.G] [.B] (fun (t:Array Value × Array Value)=>Z4 t.1 t.2) (fun (t:Array Value × Array Value)=>zn t.1 t.2)
def GR (x0:Array Value) (x1:Array Value):M (Bool):=do
 let Xx2←mkB KB x0
 let Xx3←mkB KB x1
 let Xx5←ldG 4 Xx2
 let Xx6←ldG 4 Xx3
 let Xx7←UQ Xx5 Xx6
 M.pure (Xx7 == 0)
theorem KED (x0:Array Value) (x1:Array Value):Kg Go.Proofs.Tryz.prog 15 #[.agg x0,.agg x1] (fun (r:Bool)=>.bool r) (GR x0 x1) :=
 KI [Xd] [] [.B] [(0,.G x0),(1,.G x1)] .o Go.Proofs.Tryz.func15 rfl rfl ⟨rfl,rfl,trivial⟩ rfl (by kernel_rfl) (by kernel_rfl)
noncomputable def KEE:CalleeS Go.Proofs.Tryz.prog:=mkC KCz KC4 [.G,.G] [.B] (fun (t:Array Value × Array Value)=>GR t.1 t.2) (fun (t:Array Value × Array Value)=>KED t.1 t.2)
def Ku (C5:Addr) (lp1:Nat):(Sl)→M Nat:=fun x=>match x with
 | Xx6=>do
  let _←beg lp1
  let Xx7←ldL C5
  let Xx8←bdL Ze 1 #[(Xx6:Sl).v]
  let Xx9←apL Ze 1 24 (#[.slice none 0 0]:Array Value) Xx7 Xx8
  stV C5 ((Xx9:Sl).v)
  M.pure 0
def Ka (x0:Sl) (x1:Value):M (Sl):=do
 let Xx2←mkB X5 #[(x0:Sl).v]
 let j_11←rgF Go.Proofs.Tryz.prog (fun x:Sl=>[(x:Sl).v]) [] (Ku Xx2) x1
 let Xx13←ldL Xx2
 let _←shut (j_11.2::[])
 M.pure Xx13
theorem Um (x0:Sl) (x1:Value):Kg Go.Proofs.Tryz.prog 135 #[(x0:Sl).v,x1] (fun (r:Sl)=>(r:Sl).v) (Ka x0 x1):=by
 refine KHN [(0,(x0:Sl).v),(1,x1)] Go.Proofs.Tryz.func135 rfl rfl (Nat.le_of_ble_eq_true rfl) (Ym ⟨rfl,rfl,trivial⟩) (fun w0 w Q R a hret hE hR H=>?_)
 unfold Ka at H
 refine Kx (fun K hK_1=>?_)
 refine KH ?_
 obtain ⟨Xx2,qXx2,H⟩:=H
 refine q8 (v:=.pointer (some Xx2)) rfl rfl hE rfl hR (KKC hE rfl qXx2) (fun a w hE hR hh=>?_)
 replace H:=M.at hh H; clear hh
 refine KE (v:=(Sl.nil:Sl).v) rfl rfl hE rfl (Kf hE rfl) (fun a hE=>?_)
 refine Kc ?_
 refine hK_1 _ _ ?_
 refine Kx (fun K hK_3=>?_)
 refine Kx (fun K hK_4=>?_)
 refine KH ?_
 refine KE (v:=x1) rfl rfl hE rfl (KG hE rfl) (fun a hE=>?_)
 refine Kc ?_
 refine hK_4 _ _ ?_
 refine Yl ?_
 refine KI1 (js:=[]) (enc:=(fun x:Sl=>[(x:Sl).v])) (Y:=(Ku Xx2)) hE hR rfl (fun x=>rfl) rfl (M.unbind H) (fun lp1 Xx6 Q w0 Rr hfin a w hE hR H=>?_) (fun j_11 a w hE hR H=>?_)
 ·skip
  replace hE:Env (⟨13,[]⟩:Frm) a [(2,.pointer (some Xx2)),(7,(Xx6:Sl).v)]:=Env.cut hE (.cons rfl (.cons rfl Subs.nil))
  replace H:(Ku Xx2 lp1 Xx6).wp w.heap Q:=H
  unfold Ku at H
  refine KH ?_
  refine KE (v:=(Xx6:Sl).v) rfl rfl hE rfl (Kf hE rfl) (fun a hE=>?_)
  refine Kc ?_
  refine KMu hR H (fun w hR H=>?_)
  refine Yl ?_
  refine KH ?_
  obtain ⟨Xx7,qXx7,H⟩:=H
  refine KE (v:=(Xx7:Sl).v) rfl rfl hE rfl (Z3 hE rfl sc89 qXx7) (fun a hE=>?_)
  refine KE (v:=(Xx6:Sl).v) rfl rfl hE rfl (KG hE rfl) (fun a hE=>?_)
  obtain ⟨Xx8,qXx8,H⟩:=H
  refine q8 (v:=(Xx8:Sl).v) rfl rfl hE rfl hR (Nv (cells:=#[(Xx6:Sl).v]) hE rfl un89 sz22 zr22 rfl rfl qXx8) (fun a w hE hR hh=>?_)
  replace H:=M.at hh H; clear hh
  refine t_ex (fun Xx9=>(Xx9:Sl).v) rfl rfl hR (M.unbind H) (fun Q H=>KDl hE rfl rfl ap89 H) (fun Xx9 a w ea hR H=>?_)
  have hE:=Env.put_some hE rfl ea; clear ea
  obtain ⟨u_10,qu_10,H⟩:=H
  refine XA rfl rfl hE hR (VD hE rfl rfl sz89 qu_10) (fun a w hE hR hh=>?_)
  replace H:=M.at hh H; clear hh
  refine Kc ?_
  exact hfin 0 _ _ hR H
 ·skip
  replace hE:Env (⟨13,(j_11.2::[])⟩:Frm) a [(2,.pointer (some Xx2)),(4,(Sl.nil:Sl).v)]:=Env.cut hE (.cons rfl (.cons rfl Subs.nil))
  refine KKe ?_
  refine hK_3 _ _ ?_
  refine Kx (fun K hK_12=>?_)
  refine KH ?_
  obtain ⟨Xx13,qXx13,H⟩:=H
  refine KE (v:=(Xx13:Sl).v) rfl rfl hE rfl (Z3 hE rfl sc89 qXx13) (fun a hE=>?_)
  refine KE (v:=(Xx13:Sl).v) rfl rfl hE rfl (Kf hE rfl) (fun a hE=>?_)
  refine Kc ?_
  refine hK_12 _ _ ?_
  refine Gd ?_
  refine hret _ _ _ _ _ hE hR (M.unbind H) (fun w hR H=>?_)
  exact ⟨Xx13,_,UF hE rfl (RV.tmp rfl RV.nil),rfl,H⟩
noncomputable def Un:CalleeS Go.Proofs.Tryz.prog:=mkC Ue Uf [.L,.V] [.L] (fun (t:Sl × Value)=>Ka t.1 t.2) (fun (t:Sl × Value)=>Um t.1 t.2)
def Zn (x0:Value):M (Sl):=do
 let Xx3←Ka Sl.nil x0
 M.pure Xx3
theorem XL (x0:Value):Kg Go.Proofs.Tryz.prog 77 #[x0] (fun (r:Sl)=>(r:Sl).v) (Zn x0) :=
 KI [Un] [] [.L] [(0,.V x0)] .o Go.Proofs.Tryz.func77 rfl rfl ⟨rfl,trivial⟩ rfl (by kernel_rfl) (by kernel_rfl)
noncomputable def XM:CalleeS Go.Proofs.Tryz.prog:=mkC Yt Yz [.V] [.L] (fun (t:Value)=>Zn t) (fun (t:Value)=>XL t)
def ZV (x0:Sl) (x1:Int):M (Value):=do
 let Xx2←mkB Ze #[(x0:Sl).v]
 let Xx3←mkB Nb #[.int .i64 x1]
 let Xx6←ldI .i64 Xx3
 M.ite (decide (Xx6 < 1)) (do
  M.fail
  ) (do
  M.pure (Value.func (.func Jb) #[] #[.pointer (some Xx2),.pointer (some Xx3)])
  )
theorem Vv (x0:Sl) (x1:Int):Kg Go.Proofs.Tryz.prog 78 #[(x0:Sl).v,.int .i64 x1] (fun (r:Value)=>r) (ZV x0 x1) :=
 KI [] [] [.V] [(0,.L x0),(1,.I .i64 x1)] .o Go.Proofs.Tryz.func78 rfl rfl ⟨rfl,rfl,trivial⟩ rfl (by kernel_rfl) (by kernel_rfl)
noncomputable def Vw:CalleeS Go.Proofs.Tryz.prog:=mkC Vi Vk [.L,.I .i64] [.V] (fun (t:Sl × Int)=>ZV t.1 t.2) (fun (t:Sl × Int)=>Vv t.1 t.2)
end Gx
namespace Gx
open Go
set_option linter.unusedVariables false
set_option maxRecDepth 100000
def KR (self1:(Int)→M (Unit)) (self2:(Int)→M (Unit)) (C21:Sl) (C25:Int) (C26:Int) (Xx20:Bool):M (Unit):=do
 M.ite Xx20 (do
  let Xx28←ixL C21 (IntKind.wrap .i64 (C26 - 1)) 1
  let Xx29←ixL C21 C26 1
  let Xx30←ldL Xx28
  let Xx31←ldL Xx29
  let Xx32←ixL C21 C26 1
  stV Xx32 ((Xx30:Sl).v)
  let Xx34←ixL C21 (IntKind.wrap .i64 (C26 - 1)) 1
  stV Xx34 ((Xx31:Sl).v)
  self2 (IntKind.wrap .i64 (C26 - 1))
  ) (do
  self1 (IntKind.wrap .i64 (C25+1))
  )
def ZT (self1:(Int)→M (Unit)) (C13:Sl) (C14:Int) (C16:Value) (C17:Int) (self2:(Int)→M (Unit)):(Int)→M (Unit):=fun s=>match s with
 | Xx12=>do
  M.ite (decide (Xx12 > C14)) (do
   let Xx37←ixL C13 Xx12 1
   let Xx38←ixL C13 (IntKind.wrap .i64 (Xx12 - 1)) 1
   let Xx39←ldL Xx37
   let Xx40←ldL Xx38
   let Xx41←KB2 Go.Proofs.Tryz.prog (fun r:Int=>.int .i64 r) C16 [(Xx39:Sl).v,(Xx40:Sl).v]
   KR self1 self2 C13 C17 Xx12 (decide (Xx41 < 0))
   ) (do
   KR self1 self2 C13 C17 Xx12 false
   )
def ZU (C3:Sl) (C4:Int) (C5:Int) (C6:Value) (self1:(Int)→M (Unit)):(Int)→M (Unit):=fun s=>match s with
 | Xx2=>do
  M.ite (decide (Xx2 < C5)) (do
   M.loop (ZT self1 C3 C4 C6 Xx2) Xx2
   ) (do
   M.pure ()
   )
def KW (x0:Sl) (x1:Int) (x2:Int) (x3:Value):M (Unit):=do
 M.loop (ZU x0 x1 x2 x3) (IntKind.wrap .i64 (x1+1))
theorem U6 (x0:Sl) (x1:Int) (x2:Int) (x3:Value):Kg Go.Proofs.Tryz.prog 178 #[(x0:Sl).v,.int .i64 x1,.int .i64 x2,x3] (fun (r:Unit)=>.tuple #[]) (KW x0 x1 x2 x3) :=
 KI [] [] [] [(0,.L x0),(1,.I .i64 x1),(2,.I .i64 x2),(3,.V x3)] (.q .o (.b (.l [(0,.L),(1,.I .i64),(2,.I .i64),(3,.V)] [(8,.I .i64)] (fun (t:Sl × Int × Int × Value)=>ZU t.1 t.2.1 t.2.2.1 t.2.2.2) (fun self1=>.q .o (.q (.b (.q .o (.b (.l [(0,.L),(1,.I .i64),(2,.I .i64),(3,.V),(8,.I .i64)] [(9,.I .i64)] (fun (t:Sl × Int × Int × Value × Int)=>ZT self1 t.1 t.2.1 t.2.2.2.1 t.2.2.2.2) (fun self2=>.q (.q (.r [0,0,3,4,8,8,8,104,136,8,8,1032,2568,4104,8472,16392,32776] [0,0,3,4,8,8,8,104,136,8,8,1032,2568,4104,8472,16392,32776] [0,0,3,7,15,15,15,111,239,15,15,1039,3599,7695,16383,32767,65535] (.pu 0 (.pu 1 (.pu 2 (.pu 3 (.g 3 (.pu 4 (.pu 5 (.pu 6 (.pu 7 (.pu 9 (.pu 10 (.pu 11 (.pu 12 (.pu 8 (.pu 13 (.st [14,15,16] (.on 14 (.pu 15 (.pu 16 (.nx .dn))))))))))))))) (.of 4 (.of 5 (.of 6 (.of 7 (.of 8 (.of 9 (.of 10 (.of 11 (.of 12 (.of 13 (.of 14 (.of 15 (.pu 16 (.st [0,1,2,3,4,5,6,7,8,9,10,11,12,13,14,15,16] .dn)))))))))))))))))))) (.j [(0,.L),(1,.I .i64),(2,.I .i64),(3,.V),(8,.I .i64),(9,.I .i64),(34,.B)] (fun (t:Sl × Int × Int × Value × Int × Int × Bool)=>KR self1 self2 t.1 t.2.2.2.2.1 t.2.2.2.2.2.1 t.2.2.2.2.2.2) .o)) (.q (.b (.r [0,0,0,0,8,0,0,64,160,256,0,0,3072,4096,9187,25571,65535,131071] [0,0,0,0,8,0,0,64,160,256,0,0,3072,4096,3,16896,20,73728] [0,0,0,0,8,0,0,64,224,480,0,0,3072,7168,16355,32739,65535,131071] (.pu 0 (.pu 1 (.pu 2 (.pu 3 (.pu 4 (.pu 5 (.pu 6 (.pu 7 (.pu 8 (.pu 10 (.pu 11 (.pu 12 (.pu 9 (.pu 13 (.pu 14 (.st [14,15,16,17] (.on 15 (.pu 16 (.nx (.on 17 .dn)))))))))))))))))))))) .o)))))) .o))))) Go.Proofs.Tryz.func178 rfl rfl ⟨rfl,rfl,rfl,rfl,trivial⟩ rfl (by kernel_rfl) (by kernel_rfl)
noncomputable def U7:CalleeS Go.Proofs.Tryz.prog:=mkC Uu Uv [.L,.I .i64,.I .i64,.V] [] (fun (t:Sl × Int × Int × Value)=>KW t.1 t.2.1 t.2.2.1 t.2.2.2) (fun (t:Sl × Int × Int × Value)=>U6 t.1 t.2.1 t.2.2.1 t.2.2.2)
def Jg (C3:Sl) (C4:Int) (C5:Int) (C6:Int) (self1:(Int)→M (Unit)):(Int)→M (Unit):=fun s=>match s with
 | Xx2=>do
  M.ite (decide (Xx2 < C6)) (do
   let Xx11←ixL C3 (IntKind.wrap .i64 (C5+Xx2)) 1
   let Xx12←ixL C3 (IntKind.wrap .i64 (C4+Xx2)) 1
   let Xx13←ldL Xx11
   let Xx14←ldL Xx12
   let Xx15←ixL C3 (IntKind.wrap .i64 (C4+Xx2)) 1
   stV Xx15 ((Xx13:Sl).v)
   let Xx17←ixL C3 (IntKind.wrap .i64 (C5+Xx2)) 1
   stV Xx17 ((Xx14:Sl).v)
   self1 (IntKind.wrap .i64 (Xx2+1))
   ) (do
   M.pure ()
   )
def ZB (x0:Sl) (x1:Int) (x2:Int) (x3:Int) (x4:Value):M (Unit):=do
 M.loop (Jg x0 x1 x2 x3) 0
theorem Vo (x0:Sl) (x1:Int) (x2:Int) (x3:Int) (x4:Value):Kg Go.Proofs.Tryz.prog 244 #[(x0:Sl).v,.int .i64 x1,.int .i64 x2,.int .i64 x3,x4] (fun (r:Unit)=>.tuple #[]) (ZB x0 x1 x2 x3 x4) :=
 KI [] [] [] [(0,.L x0),(1,.I .i64 x1),(2,.I .i64 x2),(3,.I .i64 x3),(4,.V x4)] (.q .o (.b (.l [(0,.L),(1,.I .i64),(2,.I .i64),(3,.I .i64)] [(10,.I .i64)] (fun (t:Sl × Int × Int × Int)=>Jg t.1 t.2.1 t.2.2.1 t.2.2.2) (fun _=>.q .o (.q (.b (.r [0,0,0,6,0,0,0,96,0,0,0,1536,2304,4096,0,0,0,98304,147456,262144,540431,1589007,4194303,8388607] [0,0,0,6,0,0,0,96,0,0,0,1536,2304,4096,0,0,0,98304,147456,262144,9,1056768,144,4718592] [0,0,0,6,0,0,0,96,0,0,0,1536,3840,7936,0,0,0,98304,245760,507904,1048335,2096911,4194303,8388607] (.pu 0 (.pu 1 (.pu 2 (.pu 3 (.pu 4 (.pu 5 (.pu 6 (.pu 7 (.pu 8 (.pu 9 (.pu 10 (.pu 11 (.pu 12 (.pu 14 (.pu 15 (.pu 16 (.pu 17 (.pu 18 (.pu 13 (.pu 19 (.pu 20 (.st [20,21,22,23] (.on 21 (.pu 22 (.nx (.on 23 .dn)))))))))))))))))))))))))))) .o))))) Go.Proofs.Tryz.func244 rfl rfl ⟨rfl,rfl,rfl,rfl,rfl,trivial⟩ rfl (by kernel_rfl) (by kernel_rfl)
noncomputable def Vp:CalleeS Go.Proofs.Tryz.prog:=mkC VX VZ [.L,.I .i64,.I .i64,.I .i64,.V] [] (fun (t:Sl × Int × Int × Int × Value)=>ZB t.1 t.2.1 t.2.2.1 t.2.2.2.1 t.2.2.2.2) (fun (t:Sl × Int × Int × Int × Value)=>Vo t.1 t.2.1 t.2.2.1 t.2.2.2.1 t.2.2.2.2)
def J6 (C6:Sl) (C7:Int) (C8:Value) (self1:(Int × Int)→M (Unit)):(Int × Int)→M (Unit):=fun s=>match s with
 | (Xx4,Xx5)=>do
  M.ite (Xx4 != Xx5) (do
   M.ite (decide (Xx4 > Xx5)) (do
    let Xx14←ZB C6 (IntKind.wrap .i64 (C7 - Xx4)) C7 Xx5 C8
    self1 (IntKind.wrap .i64 (Xx4 - Xx5),Xx5)
    ) (do
    let Xx16←ZB C6 (IntKind.wrap .i64 (C7 - Xx4)) (IntKind.wrap .i64 ((IntKind.wrap .i64 (C7+Xx5)) - Xx4)) Xx4 C8
    self1 (Xx4,IntKind.wrap .i64 (Xx5 - Xx4))
    )
   ) (do
   let Xx17←ZB C6 (IntKind.wrap .i64 (C7 - Xx4)) C7 Xx4 C8
   M.pure ()
   )
def JP (x0:Sl) (x1:Int) (x2:Int) (x3:Int) (x4:Value):M (Unit):=do
 M.loop (J6 x0 x2 x4) (IntKind.wrap .i64 (x2 - x1),IntKind.wrap .i64 (x3 - x2))
theorem WX (x0:Sl) (x1:Int) (x2:Int) (x3:Int) (x4:Value):Kg Go.Proofs.Tryz.prog 220 #[(x0:Sl).v,.int .i64 x1,.int .i64 x2,.int .i64 x3,x4] (fun (r:Unit)=>.tuple #[]) (JP x0 x1 x2 x3 x4) :=
 KI [Vp] [] [] [(0,.L x0),(1,.I .i64 x1),(2,.I .i64 x2),(3,.I .i64 x3),(4,.V x4)] (.q .o (.q .o (.q (.b (.l [(0,.L),(2,.I .i64),(4,.V)] [(10,.I .i64),(11,.I .i64)] (fun (t:Sl × Int × Value)=>J6 t.1 t.2.1 t.2.2) (fun _=>.o))) .o))) Go.Proofs.Tryz.func220 rfl rfl ⟨rfl,rfl,rfl,rfl,rfl,trivial⟩ rfl (by kernel_rfl) (by kernel_rfl)
noncomputable def WY:CalleeS Go.Proofs.Tryz.prog:=mkC WG WI [.L,.I .i64,.I .i64,.I .i64,.V] [] (fun (t:Sl × Int × Int × Int × Value)=>JP t.1 t.2.1 t.2.2.1 t.2.2.2.1 t.2.2.2.2) (fun (t:Sl × Int × Int × Int × Value)=>WX t.1 t.2.1 t.2.2.1 t.2.2.2.1 t.2.2.2.2)
def Jq (C24:Sl) (C25:Int) (self2:(Int)→M (Unit)):(Int)→M (Unit):=fun s=>match s with
 | Xx23=>do
  M.ite (decide (Xx23 < (IntKind.wrap .i64 (C25 - 1)))) (do
   let Xx30←ixL C24 (IntKind.wrap .i64 (Xx23+1)) 1
   let Xx31←ixL C24 Xx23 1
   let Xx32←ldL Xx30
   let Xx33←ldL Xx31
   let Xx34←ixL C24 Xx23 1
   stV Xx34 ((Xx32:Sl).v)
   let Xx36←ixL C24 (IntKind.wrap .i64 (Xx23+1)) 1
   stV Xx36 ((Xx33:Sl).v)
   self2 (IntKind.wrap .i64 (Xx23+1))
   ) (do
   M.pure ()
   )
def Jr (C8:Sl) (C9:Int) (C10:Value) (self1:(Int × Int)→M (Unit)):(Int × Int)→M (Unit):=fun s=>match s with
 | (Xx6,Xx7)=>do
  M.ite (decide (Xx6 < Xx7)) (do
   let Xx16←ixL C8 (IntKind.wrap .i64 (iShr .u64 (IntKind.wrap .u64 (IntKind.wrap .i64 (Xx6+Xx7))) 1)) 1
   let Xx17←ixL C8 C9 1
   let Xx18←ldL Xx16
   let Xx19←ldL Xx17
   let Xx20←KB2 Go.Proofs.Tryz.prog (fun r:Int=>.int .i64 r) C10 [(Xx18:Sl).v,(Xx19:Sl).v]
   M.ite (decide (Xx20 < 0)) (do
    self1 (IntKind.wrap .i64 ((IntKind.wrap .i64 (iShr .u64 (IntKind.wrap .u64 (IntKind.wrap .i64 (Xx6+Xx7))) 1))+1),Xx7)
    ) (do
    self1 (Xx6,IntKind.wrap .i64 (iShr .u64 (IntKind.wrap .u64 (IntKind.wrap .i64 (Xx6+Xx7))) 1))
    )
   ) (do
   M.loop (Jq C8 Xx6) C9
   )
def Js (C61:Sl) (C62:Int) (self4:(Int)→M (Unit)):(Int)→M (Unit):=fun s=>match s with
 | Xx60=>do
  M.ite (decide (Xx60 > C62)) (do
   let Xx67←ixL C61 (IntKind.wrap .i64 (Xx60 - 1)) 1
   let Xx68←ixL C61 Xx60 1
   let Xx69←ldL Xx67
   let Xx70←ldL Xx68
   let Xx71←ixL C61 Xx60 1
   stV Xx71 ((Xx69:Sl).v)
   let Xx73←ixL C61 (IntKind.wrap .i64 (Xx60 - 1)) 1
   stV Xx73 ((Xx70:Sl).v)
   self4 (IntKind.wrap .i64 (Xx60 - 1))
   ) (do
   M.pure ()
   )
def Jt (C45:Sl) (C46:Int) (C47:Value) (self3:(Int × Int)→M (Unit)):(Int × Int)→M (Unit):=fun s=>match s with
 | (Xx43,Xx44)=>do
  M.ite (decide (Xx43 < Xx44)) (do
   let Xx53←ixL C45 C46 1
   let Xx54←ixL C45 (IntKind.wrap .i64 (iShr .u64 (IntKind.wrap .u64 (IntKind.wrap .i64 (Xx43+Xx44))) 1)) 1
   let Xx55←ldL Xx53
   let Xx56←ldL Xx54
   let Xx57←KB2 Go.Proofs.Tryz.prog (fun r:Int=>.int .i64 r) C47 [(Xx55:Sl).v,(Xx56:Sl).v]
   M.ite (!(decide (Xx57 < 0))) (do
    self3 (IntKind.wrap .i64 ((IntKind.wrap .i64 (iShr .u64 (IntKind.wrap .u64 (IntKind.wrap .i64 (Xx43+Xx44))) 1))+1),Xx44)
    ) (do
    self3 (Xx43,IntKind.wrap .i64 (iShr .u64 (IntKind.wrap .u64 (IntKind.wrap .i64 (Xx43+Xx44))) 1))
    )
   ) (do
   M.loop (Js C45 Xx43) C46
   )
def Zq (C117:Sl) (C118:Int) (C119:Value) (C120:Int) (C121:Int):M (Unit):=do
 let Xx123←M.ite (decide (C120 < C121)) (do
  M.pure (decide (C121 < C118))
  ) (do
  M.pure false
  )
 M.ite Xx123 (do
  let Xx124←Nz Go.Proofs.Tryz.prog Kz #[(C117:Sl).v,.int .i64 C120,.int .i64 C121,.int .i64 C118,C119] (fun r:Unit=>.tuple #[])
  M.pure ()
  ) (do
  M.pure ()
  )
def Zr (C110:Sl) (C111:Int) (C112:Int) (C113:Value) (C114:Int) (C115:Int) (C116:Int):M (Unit):=do
 let Xx126←M.ite (decide (C111 < C115)) (do
  M.pure (decide (C115 < C114))
  ) (do
  M.pure false
  )
 M.ite Xx126 (do
  let Xx127←Nz Go.Proofs.Tryz.prog Kz #[(C110:Sl).v,.int .i64 C111,.int .i64 C115,.int .i64 C114,C113] (fun r:Unit=>.tuple #[])
  Zq C110 C112 C113 C114 C116
  ) (do
  Zq C110 C112 C113 C114 C116
  )
def Ju (C91:Sl) (C92:Int) (C93:Int) (C94:Int) (C95:Value) (C96:Int) (C97:Int) (C98:Int) (self5:(Int × Int)→M (Unit)):(Int × Int)→M (Unit):=fun s=>match s with
 | (Xx89,Xx90)=>do
  M.ite (decide (Xx89 < Xx90)) (do
   let Xx104←ixL C91 (IntKind.wrap .i64 (C98 - (IntKind.wrap .i64 (iShr .u64 (IntKind.wrap .u64 (IntKind.wrap .i64 (Xx89+Xx90))) 1)))) 1
   let Xx105←ixL C91 (IntKind.wrap .i64 (iShr .u64 (IntKind.wrap .u64 (IntKind.wrap .i64 (Xx89+Xx90))) 1)) 1
   let Xx106←ldL Xx104
   let Xx107←ldL Xx105
   let Xx108←KB2 Go.Proofs.Tryz.prog (fun r:Int=>.int .i64 r) C95 [(Xx106:Sl).v,(Xx107:Sl).v]
   M.ite (!(decide (Xx108 < 0))) (do
    self5 (IntKind.wrap .i64 ((IntKind.wrap .i64 (iShr .u64 (IntKind.wrap .u64 (IntKind.wrap .i64 (Xx89+Xx90))) 1))+1),Xx90)
    ) (do
    self5 (Xx89,IntKind.wrap .i64 (iShr .u64 (IntKind.wrap .u64 (IntKind.wrap .i64 (Xx89+Xx90))) 1))
    )
   ) (do
   let Xx129←M.ite (decide (Xx89 < C93)) (do
    M.pure (decide (C93 < (IntKind.wrap .i64 (C97 - Xx89))))
    ) (do
    M.pure false
    )
   M.ite Xx129 (do
    let Xx130←JP C91 Xx89 C93 (IntKind.wrap .i64 (C97 - Xx89)) C95
    Zr C91 C92 C94 C95 C96 Xx89 (IntKind.wrap .i64 (C97 - Xx89))
    ) (do
    Zr C91 C92 C94 C95 C96 Xx89 (IntKind.wrap .i64 (C97 - Xx89))
    )
   )
def Zs (C80:Sl) (C81:Int) (C82:Int) (C83:Int) (C84:Value) (C85:Int) (C86:Int) (Xx78:Int) (Xx79:Int):M (Unit):=do
 M.loop (Ju C80 C81 C82 C83 C84 C85 C86 (IntKind.wrap .i64 (C86 - 1))) (Xx78,Xx79)
def ZW (x0:Sl) (x1:Int) (x2:Int) (x3:Int) (x4:Value):M (Unit):=do
 M.ite ((IntKind.wrap .i64 (x2 - x1)) == 1) (do
  M.loop (Jr x0 x1 x4) (x2,x3)
  ) (do
  M.ite ((IntKind.wrap .i64 (x3 - x2)) == 1) (do
   M.loop (Jt x0 x2 x4) (x1,x2)
   ) (do
   M.ite (decide (x2 > (IntKind.wrap .i64 (iShr .u64 (IntKind.wrap .u64 (IntKind.wrap .i64 (x1+x3))) 1)))) (do
    Zs x0 x1 x2 x3 x4 (IntKind.wrap .i64 (iShr .u64 (IntKind.wrap .u64 (IntKind.wrap .i64 (x1+x3))) 1)) (IntKind.wrap .i64 ((IntKind.wrap .i64 (iShr .u64 (IntKind.wrap .u64 (IntKind.wrap .i64 (x1+x3))) 1))+x2)) (IntKind.wrap .i64 ((IntKind.wrap .i64 ((IntKind.wrap .i64 (iShr .u64 (IntKind.wrap .u64 (IntKind.wrap .i64 (x1+x3))) 1))+x2)) - x3)) (IntKind.wrap .i64 (iShr .u64 (IntKind.wrap .u64 (IntKind.wrap .i64 (x1+x3))) 1))
    ) (do
    Zs x0 x1 x2 x3 x4 (IntKind.wrap .i64 (iShr .u64 (IntKind.wrap .u64 (IntKind.wrap .i64 (x1+x3))) 1)) (IntKind.wrap .i64 ((IntKind.wrap .i64 (iShr .u64 (IntKind.wrap .u64 (IntKind.wrap .i64 (x1+x3))) 1))+x2)) x1 x2
    )
   )
  )
theorem Vx (x0:Sl) (x1:Int) (x2:Int) (x3:Int) (x4:Value):Kg Go.Proofs.Tryz.prog 179 #[(x0:Sl).v,.int .i64 x1,.int .i64 x2,.int .i64 x3,x4] (fun (r:Unit)=>.tuple #[]) (ZW x0 x1 x2 x3 x4) :=
 KI [mkC Kz Jo [.L,.I .i64,.I .i64,.I .i64,.V] [] (fun (t:Sl × Int × Int × Int × Value)=>Nz Go.Proofs.Tryz.prog Kz #[(t.1:Sl).v,.int .i64 t.2.1,.int .i64 t.2.2.1,.int .i64 t.2.2.2.1,t.2.2.2.2] (fun r:Unit=>.tuple #[])) (fun (t:Sl × Int × Int × Int × Value)=>WD),WY] [] [] [(0,.L x0),(1,.I .i64 x1),(2,.I .i64 x2),(3,.I .i64 x3),(4,.V x4)] (.q (.q .o (.q (.q .o (.q .o (.q (.b (.l [(0,.L),(1,.I .i64),(4,.V)] [(10,.I .i64),(11,.I .i64)] (fun (t:Sl × Int × Value)=>Jr t.1 t.2.1 t.2.2) (fun _=>.q .o (.b (.q .o (.q (.r [0,0,0,6,8,0,0,96,128,273,512] [0,0,0,6,8,0,0,96,128,273,512] [0,0,0,6,14,0,0,96,224,511,1023] (.pu 0 (.pu 1 (.pu 2 (.pu 3 (.pu 5 (.pu 6 (.pu 7 (.pu 4 (.pu 8 (.st [9,10] (.on 9 (.pu 10 (.nx .dn)))))))))))))) .o)))))) (.q (.q .o (.b (.l [(0,.L),(10,.I .i64)] [(13,.I .i64)] (fun (t:Sl × Int)=>Jq t.1 t.2) (fun _=>.q .o (.q (.b (.r [0,0,0,0,8,0,0,64,160,256,0,0,3072,4096,9187,25571,65535,131071] [0,0,0,0,8,0,0,64,160,256,0,0,3072,4096,3,16896,20,73728] [0,0,0,0,8,0,0,64,224,480,0,0,3072,7168,16355,32739,65535,131071] (.pu 0 (.pu 1 (.pu 2 (.pu 3 (.pu 4 (.pu 5 (.pu 6 (.pu 7 (.pu 8 (.pu 10 (.pu 11 (.pu 12 (.pu 9 (.pu 13 (.pu 14 (.st [14,15,16,17] (.on 15 (.pu 16 (.nx (.on 17 .dn)))))))))))))))))))))) .o))))) .o)))) .o)) (.q (.q .o (.q (.q .o (.q .o (.q (.b (.l [(0,.L),(2,.I .i64),(4,.V)] [(14,.I .i64),(15,.I .i64)] (fun (t:Sl × Int × Value)=>Jt t.1 t.2.1 t.2.2) (fun _=>.q .o (.b (.q .o (.q (.r [0,0,0,6,8,0,0,96,128,273,512,1024] [0,0,0,6,8,0,0,96,128,273,512,1024] [0,0,0,6,14,0,0,96,224,511,1023,2047] (.pu 0 (.pu 1 (.pu 2 (.pu 3 (.pu 5 (.pu 6 (.pu 7 (.pu 4 (.pu 8 (.st [9,10,11] (.on 9 (.pu 10 (.pu 11 (.nx .dn))))))))))))))) .o)))))) (.q (.q .o (.b (.l [(0,.L),(14,.I .i64)] [(17,.I .i64)] (fun (t:Sl × Int)=>Js t.1 t.2) (fun _=>.q .o (.q (.b (.r [0,0,0,0,8,0,0,64,160,256,0,0,3072,4096,9187,25571,65535,131071] [0,0,0,0,8,0,0,64,160,256,0,0,3072,4096,3,16896,20,73728] [0,0,0,0,8,0,0,64,224,480,0,0,3072,7168,16355,32739,65535,131071] (.pu 0 (.pu 1 (.pu 2 (.pu 3 (.pu 4 (.pu 5 (.pu 6 (.pu 7 (.pu 8 (.pu 10 (.pu 11 (.pu 12 (.pu 9 (.pu 13 (.pu 14 (.st [14,15,16,17] (.on 15 (.pu 16 (.nx (.on 17 .dn)))))))))))))))))))))) .o))))) .o)))) .o)) (.q .o (.q .o (.q .o (.q .o (.j [(0,.L),(1,.I .i64),(2,.I .i64),(3,.I .i64),(4,.V),(18,.I .i64),(19,.I .i64),(20,.I .i64),(21,.I .i64)] (fun (t:Sl × Int × Int × Int × Value × Int × Int × Int × Int)=>Zs t.1 t.2.1 t.2.2.1 t.2.2.2.1 t.2.2.2.2.1 t.2.2.2.2.2.1 t.2.2.2.2.2.2.1 t.2.2.2.2.2.2.2.1 t.2.2.2.2.2.2.2.2) (.q .o (.q (.b (.l [(0,.L),(1,.I .i64),(2,.I .i64),(3,.I .i64),(4,.V),(18,.I .i64),(19,.I .i64),(22,.I .i64)] [(20,.I .i64),(21,.I .i64)] (fun (t:Sl × Int × Int × Int × Value × Int × Int × Int)=>Ju t.1 t.2.1 t.2.2.1 t.2.2.2.1 t.2.2.2.2.1 t.2.2.2.2.2.1 t.2.2.2.2.2.2.1 t.2.2.2.2.2.2.2) (fun _=>.q .o (.b (.q .o (.q (.r [0,0,0,0,12,18,32,0,0,384,512,1089,2048,4096] [0,0,0,0,12,18,32,0,0,384,512,1089,2048,4096] [0,0,0,0,12,30,62,0,0,384,896,2047,4095,8191] (.pu 0 (.pu 1 (.pu 2 (.pu 3 (.pu 4 (.pu 5 (.pu 7 (.pu 8 (.pu 9 (.pu 6 (.pu 10 (.st [11,12,13] (.on 11 (.pu 12 (.pu 13 (.nx .dn))))))))))))))))) .o)))))) (.q .o (.q .o (.j [(0,.L),(1,.I .i64),(3,.I .i64),(4,.V),(18,.I .i64),(20,.I .i64),(24,.I .i64)] (fun (t:Sl × Int × Int × Value × Int × Int × Int)=>Zr t.1 t.2.1 t.2.2.1 t.2.2.2.1 t.2.2.2.2.1 t.2.2.2.2.2.1 t.2.2.2.2.2.2) (.q .o (.j [(0,.L),(3,.I .i64),(4,.V),(18,.I .i64),(24,.I .i64)] (fun (t:Sl × Int × Value × Int × Int)=>Zq t.1 t.2.1 t.2.2.1 t.2.2.2.1 t.2.2.2.2) .o)))))))))))))) Go.Proofs.Tryz.func179 rfl rfl ⟨rfl,rfl,rfl,rfl,rfl,trivial⟩ rfl (by kernel_rfl) (by kernel_rfl)
noncomputable def Vy:CalleeS Go.Proofs.Tryz.prog:=mkC Kz Jo [.L,.I .i64,.I .i64,.I .i64,.V] [] (fun (t:Sl × Int × Int × Int × Value)=>ZW t.1 t.2.1 t.2.2.1 t.2.2.2.1 t.2.2.2.2) (fun (t:Sl × Int × Int × Int × Value)=>Vx t.1 t.2.1 t.2.2.1 t.2.2.2.1 t.2.2.2.2)
def Z7 (self2:(Int)→M (Unit)) (C42:Int):M (Unit):=do
 self2 (IntKind.wrap .i64 (C42 * 2))
def J7 (self2:(Int)→M (Unit)) (C29:Sl) (C30:Int) (C31:Value) (C32:Int) (self3:(Int × Int)→M (Unit)):(Int × Int)→M (Unit):=fun s=>match s with
 | (Xx27,Xx28)=>do
  M.ite (decide (Xx28≤C30)) (do
   let Xx37←ZW C29 Xx27 (IntKind.wrap .i64 (Xx27+C32)) Xx28 C31
   self3 (Xx28,IntKind.wrap .i64 (Xx28+(IntKind.wrap .i64 (2 * C32))))
   ) (do
   M.ite (decide ((IntKind.wrap .i64 (Xx27+C32)) < C30)) (do
    let Xx45←ZW C29 Xx27 (IntKind.wrap .i64 (Xx27+C32)) C30 C31
    Z7 self2 C32
    ) (do
    Z7 self2 C32
    )
   )
def Kh (C19:Sl) (C20:Int) (C21:Value) (self2:(Int)→M (Unit)):(Int)→M (Unit):=fun s=>match s with
 | Xx18=>do
  M.ite (decide (Xx18 < C20)) (do
   M.loop (J7 self2 C19 C20 C21 Xx18) (0,IntKind.wrap .i64 (2 * Xx18))
   ) (do
   M.pure ()
   )
def Z8 (C6:Sl) (C7:Int) (C8:Value) (C9:Int) (self1:(Int × Int)→M (Unit)):(Int × Int)→M (Unit):=fun s=>match s with
 | (Xx4,Xx5)=>do
  M.ite (decide (Xx5≤C7)) (do
   let Xx14←KW C6 Xx4 Xx5 C8
   self1 (Xx5,IntKind.wrap .i64 (Xx5+C9))
   ) (do
   let Xx17←KW C6 Xx4 C7 C8
   M.loop (Kh C6 C7 C8) C9
   )
def Zd (x0:Sl) (x1:Int) (x2:Value):M (Unit):=do
 M.loop (Z8 x0 x1 x2 20) (0,20)
theorem WZ (x0:Sl) (x1:Int) (x2:Value):Kg Go.Proofs.Tryz.prog 137 #[(x0:Sl).v,.int .i64 x1,x2] (fun (r:Unit)=>.tuple #[]) (Zd x0 x1 x2) :=
 KI [U7,Vy] [] [] [(0,.L x0),(1,.I .i64 x1),(2,.V x2)] (.q .o (.q .o (.q (.b (.l [(0,.L),(1,.I .i64),(2,.V),(6,.I .i64)] [(7,.I .i64),(8,.I .i64)] (fun (t:Sl × Int × Value × Int)=>Z8 t.1 t.2.1 t.2.2.1 t.2.2.2) (fun _=>.o))) (.q .o (.b (.l [(0,.L),(1,.I .i64),(2,.V)] [(6,.I .i64)] (fun (t:Sl × Int × Value)=>Kh t.1 t.2.1 t.2.2) (fun self2=>.q .o (.b (.q .o (.q (.b (.l [(0,.L),(1,.I .i64),(2,.V),(6,.I .i64)] [(7,.I .i64),(8,.I .i64)] (fun (t:Sl × Int × Value × Int)=>J7 self2 t.1 t.2.1 t.2.2.1 t.2.2.2) (fun _=>.o))) (.q .o (.j [(0,.L),(1,.I .i64),(2,.V),(6,.I .i64)] (fun (t:Sl × Int × Value × Int)=>Z7 self2 t.2.2.2) .o)))))))))))) Go.Proofs.Tryz.func137 rfl rfl ⟨rfl,rfl,rfl,trivial⟩ rfl (by kernel_rfl) (by kernel_rfl)
noncomputable def Wa:CalleeS Go.Proofs.Tryz.prog:=mkC WH WJ [.L,.I .i64,.V] [] (fun (t:Sl × Int × Value)=>Zd t.1 t.2.1 t.2.2) (fun (t:Sl × Int × Value)=>WZ t.1 t.2.1 t.2.2)
def KV (x0:Sl) (x1:Value):M (Unit):=do
 let Xx1←Zd x0 (x0.len:Int) x1
 M.pure ()
theorem UG (x0:Sl) (x1:Value):Kg Go.Proofs.Tryz.prog 79 #[(x0:Sl).v,x1] (fun (r:Unit)=>.tuple #[]) (KV x0 x1) :=
 KI [Wa] [] [] [(0,.L x0),(1,.V x1)] .o Go.Proofs.Tryz.func79 rfl rfl ⟨rfl,rfl,trivial⟩ rfl (by kernel_rfl) (by kernel_rfl)
noncomputable def UH:CalleeS Go.Proofs.Tryz.prog:=mkC UC UD [.L,.V] [] (fun (t:Sl × Value)=>KV t.1 t.2) (fun (t:Sl × Value)=>UG t.1 t.2)
def ZF (x0:Sl):M (Sl):=do
 M.ite ((x0).base.isNone) (do
  M.pure Sl.nil
  ) (do
  let y_7←KDn 4 0 (#[.int .i64 0,.int .i64 0,.string ByteArray.empty,.slice none 0 0]:Array Value) []
  let Xx6←bdL KB 0 y_7
  let Xx8←apL KB 4 56 (#[.int .i64 0,.int .i64 0,.string ByteArray.empty,.slice none 0 0]:Array Value) Xx6 x0
  M.pure Xx8
  )
theorem Vz (x0:Sl):Kg Go.Proofs.Tryz.prog 21 #[(x0:Sl).v] (fun (r:Sl)=>(r:Sl).v) (ZF x0) :=
 KI [] [] [.L] [(0,.L x0)] .o Go.Proofs.Tryz.func21 rfl rfl ⟨rfl,trivial⟩ rfl (by kernel_rfl) (by kernel_rfl)
noncomputable def WA:CalleeS Go.Proofs.Tryz.prog:=mkC Vj Vm [.L] [.L] (fun (t:Sl)=>ZF t) (fun (t:Sl)=>Vz t)
def GF (C12:Addr) (C13:Addr) (C14:Int) (self1:(Int)→M (Array Value)):(Int)→M (Array Value):=fun s=>match s with
 | Xx11=>do
  M.ite (decide (Xx11 < C14)) (do
   let Xx20←ldL ((C12).add 3)
   let Xx21←ldL ((C12).add 3)
   let Xx22←ixL Xx21 Xx11 4
   let Xx23←ldG 4 Xx22
   let Xx24←Nz Go.Proofs.Tryz.prog YR #[.agg Xx23] (fun r:Array Value=>.agg r)
   chk (fun h:Heap=>(KO h ((C12).add 3)=some ((Xx20:Sl).v))∧(KO h ((C12).add 3)=some ((Xx21:Sl).v))∧(Xx23.size=4∧∀ i,i < 4→KO h (Addr.add Xx22 i)=Xx23[i]?))
   let Xx25←ixL Xx20 Xx11 4
   M.need (Xx24.size=4)
   stG Xx25 Xx24
   self1 (IntKind.wrap .i64 (Xx11+1))
   ) (do
   let Xx28←ldG 4 C12
   M.need (Xx28.size=4)
   stG C13 Xx28
   let Rr30←ldG 4 C13
   M.pure Rr30
   )
def WM (x0:Array Value):M (Array Value):=do
 let Xx2←mkB KB x0
 let Xx3←mkB KB (#[.int .i64 0,.int .i64 0,.string ByteArray.empty,.slice none 0 0]:Array Value)
 let Xx5←ldL ((Xx2).add 3)
 let Xx6←ZF Xx5
 stV ((Xx2).add 3) ((Xx6:Sl).v)
 let Xx10←ldL ((Xx2).add 3)
 M.loop (GF Xx2 Xx3 (Xx10.len:Int)) 0
theorem zo (x0:Array Value):Kg Go.Proofs.Tryz.prog 39 #[.agg x0] (fun (r:Array Value)=>.agg r) (WM x0) :=
 KI [WA,mkC YR qM [.G] [.G] (fun (t:Array Value)=>Nz Go.Proofs.Tryz.prog YR #[.agg t] (fun r:Array Value=>.agg r)) (fun (t:Array Value)=>WD)] [] [.G] [(0,.G x0)] (.q .o (.q .o (.q (.q .o (.b (.l [(1,.A),(2,.A),(10,.I .i64)] [(11,.I .i64)] (fun (t:Addr × Addr × Int)=>GF t.1 t.2.1 t.2.2) (fun _=>.q .o (.q .o (.q (.b (.q .o (.r [0,1,0,0,8,0,48,64,128,511,1023] [0,1,0,0,8,0,48,64,128,6,768] [0,1,0,0,8,0,56,120,248,511,1023] (.pu 0 (.pu 2 (.pu 3 (.pu 5 (.pu 1 (.pu 4 (.pu 6 (.pu 7 (.st [9,10] (.on 8 (.pu 9 (.nx (.on 10 .dn)))))))))))))))) .o)))))) .o))) Go.Proofs.Tryz.func39 rfl rfl ⟨rfl,trivial⟩ rfl (by kernel_rfl) (by kernel_rfl)
noncomputable def G8:CalleeS Go.Proofs.Tryz.prog:=mkC YR qM [.G] [.G] (fun (t:Array Value)=>WM t) (fun (t:Array Value)=>zo t)
def GS (x0:Array Value):M (Array Value × Int):=do
 let Xx2←mkB KB x0
 let Xx3←mkB KB (#[.int .i64 0,.int .i64 0,.string ByteArray.empty,.slice none 0 0]:Array Value)
 let Xx6←ldG 4 Xx2
 let Xx7←YJ Xx6
 M.ite (Xx7 != 0) (do
  M.need ((#[.int .i64 0,.int .i64 0,.string ByteArray.empty,.slice none 0 0]:Array Value).size=4)
  stG Xx3 (#[.int .i64 0,.int .i64 0,.string ByteArray.empty,.slice none 0 0]:Array Value)
  let Rr11←ldG 4 Xx3
  M.pure (Rr11,Xx7)
  ) (do
  let Xx13←ldG 4 Xx2
  let Xx14←WM Xx13
  M.need (Xx14.size=4)
  stG Xx3 Xx14
  let Rr16←ldG 4 Xx3
  M.pure (Rr16,0)
  )
theorem KEF (x0:Array Value):Kg Go.Proofs.Tryz.prog 81 #[.agg x0] (fun (r:Array Value × Int)=>.tuple #[.agg r.1,.int .i64 r.2]) (GS x0) :=
 KI [zk,G8] [] [.G,.I .i64] [(0,.G x0)] .o Go.Proofs.Tryz.func81 rfl rfl ⟨rfl,trivial⟩ rfl (by kernel_rfl) (by kernel_rfl)
noncomputable def KEG:CalleeS Go.Proofs.Tryz.prog:=mkC KC1 KC6 [.G] [.G,.I .i64] (fun (t:Array Value)=>GS t) (fun (t:Array Value)=>KEF t)
def ZP (Xx4:Sl):M (Sl):=do
 M.pure Xx4
def ZI (x0:Sl) (x1:Int):M (Sl):=do
 M.ite (decide (x1 < 0)) (do
  M.fail
  ) (do
  M.ite (decide ((IntKind.wrap .i64 (x1 - (IntKind.wrap .i64 ((x0.cap:Int) - (x0.len:Int))))) > 0)) (do
   let Xx8←slL x0 0 (x0.cap:Int) 4
   let Xx9←apM KB 4 56 (#[.int .i64 0,.int .i64 0,.string ByteArray.empty,.slice none 0 0]:Array Value) Xx8 (IntKind.wrap .i64 (x1 - (IntKind.wrap .i64 ((x0.cap:Int) - (x0.len:Int)))))
   let Xx10←slL Xx9 0 (x0.len:Int) 4
   ZP Xx10
   ) (do
   ZP x0
   )
  )
theorem WN (x0:Sl) (x1:Int):Kg Go.Proofs.Tryz.prog 138 #[(x0:Sl).v,.int .i64 x1] (fun (r:Sl)=>(r:Sl).v) (ZI x0 x1) :=
 KI [] [] [.L] [(0,.L x0),(1,.I .i64 x1)] (.q .o (.q .o (.q .o (.j [(0,.L)] (fun (t:Sl)=>ZP t) .o)))) Go.Proofs.Tryz.func138 rfl rfl ⟨rfl,rfl,trivial⟩ rfl (by kernel_rfl) (by kernel_rfl)
noncomputable def WO:CalleeS Go.Proofs.Tryz.prog:=mkC Vt Vu [.L,.I .i64] [.L] (fun (t:Sl × Int)=>ZI t.1 t.2) (fun (t:Sl × Int)=>WN t.1 t.2)
def Zl (C25:Sl) (C26:Int) (self2:(Sl × Int)→M (Sl)):(Sl × Int)→M (Sl):=fun s=>match s with
 | (Xx23,Xx24)=>do
  M.ite (decide (Xx24 < C26)) (do
   let Xx32←ixL C25 Xx24 1
   let Xx33←ldL Xx32
   let Xx34←apL KB 4 56 (#[.int .i64 0,.int .i64 0,.string ByteArray.empty,.slice none 0 0]:Array Value) Xx23 Xx33
   self2 (Xx34,IntKind.wrap .i64 (Xx24+1))
   ) (do
   M.pure Xx23
   )
def Zm (C7:Sl) (C8:Sl) (C9:Int) (self1:(Int × Int)→M (Sl)):(Int × Int)→M (Sl):=fun s=>match s with
 | (Xx5,Xx6)=>do
  M.ite (decide (Xx6 < C9)) (do
   let Xx15←ixL C8 Xx6 1
   let Xx16←ldL Xx15
   M.ite (decide ((IntKind.wrap .i64 (Xx5+(Xx16.len:Int))) < 0)) (do
    M.fail
    ) (do
    self1 (IntKind.wrap .i64 (Xx5+(Xx16.len:Int)),IntKind.wrap .i64 (Xx6+1))
    )
   ) (do
   let Xx20←ZI Sl.nil Xx5
   M.loop (Zl C7 (C7.len:Int)) (Xx20,0)
   )
def ZC (x0:Sl):M (Sl):=do
 M.loop (Zm x0 x0 (x0.len:Int)) (0,0)
theorem Vq (x0:Sl):Kg Go.Proofs.Tryz.prog 82 #[(x0:Sl).v] (fun (r:Sl)=>(r:Sl).v) (ZC x0) :=
 KI [WO] [] [.L] [(0,.L x0)] (.q .o (.q .o (.q (.q .o (.b (.l [(0,.L),(9,.L),(10,.I .i64)] [(3,.I .i64),(11,.I .i64)] (fun (t:Sl × Sl × Int)=>Zm t.1 t.2.1 t.2.2) (fun _=>.o)))) (.q .o (.q (.q .o (.b (.l [(25,.L),(26,.I .i64)] [(6,.L),(27,.I .i64)] (fun (t:Sl × Int)=>Zl t.1 t.2) (fun _=>.o)))) .o))))) Go.Proofs.Tryz.func82 rfl rfl ⟨rfl,trivial⟩ rfl (by kernel_rfl) (by kernel_rfl)
noncomputable def Vr:CalleeS Go.Proofs.Tryz.prog:=mkC VW VY [.L] [.L] (fun (t:Sl)=>ZC t) (fun (t:Sl)=>Vq t)
def Ni (C16:Addr) (C17:Sl) (self1:(Int)→M (Array Value × Int)):(Int)→M (Array Value × Int):=fun s=>match s with
 | Xx15=>do
  M.ite (decide (Xx15 < (C17.len:Int))) (do
   let Xx23←ixL C17 (IntKind.wrap .i64 (Xx15 - 1)) 1
   let Xx24←ixL C17 Xx15 1
   let Xx25←ldL Xx23
   let Xx26←ixL Xx25 0 4
   let Xx27←ldG 4 Xx26
   let Xx28←ldL Xx24
   let Xx29←ixL Xx28 0 4
   let Xx30←ldG 4 Xx29
   let Xx31←GR Xx27 Xx30
   M.ite Xx31 (do
    M.need ((#[.int .i64 0,.int .i64 0,.string ByteArray.empty,.slice none 0 0]:Array Value).size=4)
    stG C16 (#[.int .i64 0,.int .i64 0,.string ByteArray.empty,.slice none 0 0]:Array Value)
    let Rr34←ldG 4 C16
    M.pure (Rr34,5)
    ) (do
    self1 (IntKind.wrap .i64 (Xx15+1))
    )
   ) (do
   let Xx36←ZC C17
   let Xx37←GS (#[.int .i64 5,.int .i64 0,.string ByteArray.empty,(Xx36:Sl).v]:Array Value)
   M.need (Xx37.1.size=4)
   stG C16 Xx37.1
   let Rr39←ldG 4 C16
   M.pure (Rr39,Xx37.2)
   )
def Nj (x0:Sl):M (Array Value × Int):=do
 let Xx2←mkB KB (#[.int .i64 0,.int .i64 0,.string ByteArray.empty,.slice none 0 0]:Array Value)
 M.ite ((Int.tmod (x0.len:Int) 2) == 1) (do
  M.need ((#[.int .i64 0,.int .i64 0,.string ByteArray.empty,.slice none 0 0]:Array Value).size=4)
  stG Xx2 (#[.int .i64 0,.int .i64 0,.string ByteArray.empty,.slice none 0 0]:Array Value)
  let Rr7←ldG 4 Xx2
  M.pure (Rr7,1)
  ) (do
  let Xx9←ZV x0 2
  let Xx10←Zn Xx9
  let Xx12←KV Xx10 (Value.func (.func qL) #[] #[])
  M.loop (Ni Xx2 Xx10) 1
  )
theorem KEy (x0:Sl):Kg Go.Proofs.Tryz.prog 20 #[(x0:Sl).v] (fun (r:Array Value × Int)=>.tuple #[.agg r.1,.int .i64 r.2]) (Nj x0) :=
 KI [KEE,XM,Vw,UH,KEG,Vr] [] [.G,.I .i64] [(0,.L x0)] (.q .o (.q .o (.q .o (.q .o (.q (.q .o (.b (.l [(2,.A),(4,.L)] [(5,.I .i64)] (fun (t:Addr × Sl)=>Ni t.1 t.2) (fun _=>.q .o (.q (.b (.q (.r [0,0,2,5,8,16,32,0,0,384,512,1024,2048,4160] [0,0,2,5,8,16,32,0,0,384,512,1024,2048,4160] [0,0,2,7,15,31,63,0,0,384,896,1920,3968,8191] (.pu 0 (.pu 1 (.pu 2 (.pu 3 (.pu 7 (.pu 8 (.pu 9 (.pu 4 (.pu 5 (.pu 6 (.pu 10 (.pu 11 (.pu 12 (.st [13] (.on 13 .dn)))))))))))))))) .o)) .o))))) .o))))) Go.Proofs.Tryz.func20 rfl rfl ⟨rfl,trivial⟩ rfl (by kernel_rfl) (by kernel_rfl)
noncomputable def KEz:CalleeS Go.Proofs.Tryz.prog:=mkC KDw KD3 [.L] [.G,.I .i64] (fun (t:Sl)=>Nj t) (fun (t:Sl)=>KEy t)
def Xm (x0:Int):M (Array Value):=do
 let Xx2←mkB KB (#[.int .i64 0,.int .i64 0,.string ByteArray.empty,.slice none 0 0]:Array Value)
 M.need ((#[.int .i64 1,.int .i64 x0,.string ByteArray.empty,.slice none 0 0]:Array Value).size=4)
 stG Xx2 (#[.int .i64 1,.int .i64 x0,.string ByteArray.empty,.slice none 0 0]:Array Value)
 let Rr5←ldG 4 Xx2
 M.pure Rr5
theorem KBf (x0:Int):Kg Go.Proofs.Tryz.prog 26 #[.int .i64 x0] (fun (r:Array Value)=>.agg r) (Xm x0) :=
 KI [] [] [.G] [(0,.I .i64 x0)] .o Go.Proofs.Tryz.func26 rfl rfl ⟨rfl,trivial⟩ rfl (by kernel_rfl) (by kernel_rfl)
noncomputable def KBg:CalleeS Go.Proofs.Tryz.prog:=mkC KDv KAu [.I .i64] [.G] (fun (t:Int)=>Xm t) (fun (t:Int)=>KBf t)
def GT (x0:ByteArray):M (Array Value):=do
 let Xx2←mkB KB (#[.int .i64 0,.int .i64 0,.string ByteArray.empty,.slice none 0 0]:Array Value)
 M.need ((#[.int .i64 2,.int .i64 0,.string x0,.slice none 0 0]:Array Value).size=4)
 stG Xx2 (#[.int .i64 2,.int .i64 0,.string x0,.slice none 0 0]:Array Value)
 let Rr5←ldG 4 Xx2
 M.pure Rr5
theorem KBh (x0:ByteArray):Kg Go.Proofs.Tryz.prog 28 #[.string x0] (fun (r:Array Value)=>.agg r) (GT x0) :=
 KI [] [] [.G] [(0,.S x0)] .o Go.Proofs.Tryz.func28 rfl rfl ⟨rfl,trivial⟩ rfl (by kernel_rfl) (by kernel_rfl)
noncomputable def KE0:CalleeS Go.Proofs.Tryz.prog:=mkC KDz KAv [.S] [.G] (fun (t:ByteArray)=>GT t) (fun (t:ByteArray)=>KBh t)
def Wl (C6:Addr) (C7:Addr):M (Array Value):=do
 let Xx9←ldG 4 C7
 M.need (Xx9.size=4)
 stG C6 Xx9
 let Rr11←ldG 4 C6
 M.pure Rr11
def YK (x0:Bool):M (Array Value):=do
 let Xx2←mkB KB (#[.int .i64 0,.int .i64 0,.string ByteArray.empty,.slice none 0 0]:Array Value)
 let Xx4←mkB KB (#[.int .i64 0,.int .i64 0,.string ByteArray.empty,.slice none 0 0]:Array Value)
 M.need ((#[.int .i64 3,.int .i64 0,.string ByteArray.empty,.slice none 0 0]:Array Value).size=4)
 stG Xx4 (#[.int .i64 3,.int .i64 0,.string ByteArray.empty,.slice none 0 0]:Array Value)
 M.ite x0 (do
  stV ((Xx4).add 1) (.int .i64 1)
  Wl Xx2 Xx4
  ) (do
  Wl Xx2 Xx4
  )
theorem Nk (x0:Bool):Kg Go.Proofs.Tryz.prog 34 #[.bool x0] (fun (r:Array Value)=>.agg r) (YK x0) :=
 KI [] [] [.G] [(0,.B x0)] (.q .o (.q .o (.q .o (.j [(2,.A),(3,.A)] (fun (t:Addr × Addr)=>Wl t.1 t.2) .o)))) Go.Proofs.Tryz.func34 rfl rfl ⟨rfl,trivial⟩ rfl (by kernel_rfl) (by kernel_rfl)
noncomputable def KEH:CalleeS Go.Proofs.Tryz.prog:=mkC KCx Gt [.B] [.G] (fun (t:Bool)=>YK t) (fun (t:Bool)=>Nk t)
def Uh :M (Bool):=do
 let Xx3←GT (⟨#[98]⟩:ByteArray)
 let Xx4←Xm 1
 let Xx5←GT (⟨#[97]⟩:ByteArray)
 let Xx6←YK true
 let y_8←KDn 4 4 (#[.int .i64 0,.int .i64 0,.string ByteArray.empty,.slice none 0 0]:Array Value) [(0,.agg Xx3),(1,.agg Xx4),(2,.agg Xx5),(3,.agg Xx6)]
 let Xx7←bdL KB 4 y_8
 let Xx9←Nj Xx7
 let Xx10←mkB KB (#[.int .i64 0,.int .i64 0,.string ByteArray.empty,.slice none 0 0]:Array Value)
 M.need (Xx9.1.size=4)
 stG Xx10 Xx9.1
 let Xx13←Xf (⟨#[123,39,97,39,58,32,116,114,117,101,44,32,39,98,39,58,32,49,125]⟩:ByteArray)
 let Xx14←mkB KB (#[.int .i64 0,.int .i64 0,.string ByteArray.empty,.slice none 0 0]:Array Value)
 M.need (Xx13.1.size=4)
 stG Xx14 Xx13.1
 let Xx17←M.ite (Xx9.2 == 0) (do
  let Xx18←ldG 4 Xx10
  let Xx19←GP Xx18
  M.pure (sEq Xx19 (⟨#[123,39,97,39,58,32,116,114,117,101,44,32,39,98,39,58,32,49,125]⟩:ByteArray))
  ) (do
  M.pure false
  )
 let Xx20←M.ite Xx17 (do
  M.pure (Xx13.2.2 == 0)
  ) (do
  M.pure false
  )
 let Xx21←M.ite Xx20 (do
  M.pure (Xx13.2.1 == 0)
  ) (do
  M.pure false
  )
 let Xx22←M.ite Xx21 (do
  let Xx23←ldG 4 Xx10
  let Xx24←ldG 4 Xx14
  let Xx25←Z4 Xx23 Xx24
  M.pure Xx25
  ) (do
  M.pure false
  )
 M.pure Xx22
theorem qq :Kg Go.Proofs.Tryz.prog 14 #[] (fun (r:Bool)=>.bool r) (Uh ) :=
 KI [KDD,KEC,X6,KEz,KBg,KE0,KEH] [] [.B] [] .o Go.Proofs.Tryz.func14 rfl rfl trivial rfl (by kernel_rfl) (by kernel_rfl)
noncomputable def qt:CalleeS Go.Proofs.Tryz.prog:=mkC N3 N7 [] [.B] (fun (t:Unit)=>Uh) (fun (t:Unit)=>qq)
end Gx
namespace Gx
open Go
set_option linter.unusedVariables false
set_option maxRecDepth 100000
def Wm (x0:Int):M (Array Value):=do
 let Xx2←mkB KB (#[.int .i64 0,.int .i64 0,.string ByteArray.empty,.slice none 0 0]:Array Value)
 M.need ((#[.int .i64 1,.int .i64 x0,.string ByteArray.empty,.slice none 0 0]:Array Value).size=4)
 stG Xx2 (#[.int .i64 1,.int .i64 x0,.string ByteArray.empty,.slice none 0 0]:Array Value)
 let Rr5←ldG 4 Xx2
 M.pure Rr5
theorem KAR (x0:Int):Kg Go.Proofs.Tryz.prog 27 #[.int .i64 x0] (fun (r:Array Value)=>.agg r) (Wm x0) :=
 KI [] [] [.G] [(0,.I .i64 x0)] .o Go.Proofs.Tryz.func27 rfl rfl ⟨rfl,trivial⟩ rfl (by kernel_rfl) (by kernel_rfl)
noncomputable def KAS:CalleeS Go.Proofs.Tryz.prog:=mkC zP zb [.I .i64] [.G] (fun (t:Int)=>Wm t) (fun (t:Int)=>KAR t)
def YS (x0:Int) (x1:Bool):M (Int × Int):=do
 M.ite (!x1) (do
  M.pure (0,7)
  ) (do
  M.pure (x0,0)
  )
theorem KGU (x0:Int) (x1:Bool):Kg Go.Proofs.Tryz.prog 141 #[.int .i64 x0,.bool x1] (fun (r:Int × Int)=>.tuple #[.int .i64 r.1,.int .i64 r.2]) (YS x0 x1) :=
 KI [] [] [.I .i64,.I .i64] [(0,.I .i64 x0),(1,.B x1)] .o Go.Proofs.Tryz.func141 rfl rfl ⟨rfl,rfl,trivial⟩ rfl (by kernel_rfl) (by kernel_rfl)
noncomputable def KCX:CalleeS Go.Proofs.Tryz.prog:=mkC KEt KEw [.I .i64,.B] [.I .i64,.I .i64] (fun (t:Int × Bool)=>YS t.1 t.2) (fun (t:Int × Bool)=>KGU t.1 t.2)
def GU (self1:(Int)→M (Int × Int)) (C26:Addr) (C27:Int) (C30:Int):M (Int × Int):=do
 let Xx31←ixA C26 2 0 1
 stV Xx31 (.int .u64 C27)
 self1 (IntKind.wrap .i64 (C30+1))
def GV (self1:(Int)→M (Int × Int)) (C20:Addr) (C21:Int) (C22:Int) (C25:Int):M (Int × Int):=do
 M.ite (decide (C21 < 0)) (do
  let Xx34←ixA C20 2 1 1
  let Xx35←ldI .u64 Xx34
  let Xx36←ixA C20 2 1 1
  stV Xx36 (.int .u64 (IntKind.wrap .u64 (Xx35 - 1)))
  GU self1 C20 C22 C25
  ) (do
  GU self1 C20 C22 C25
  )
def KAT (C7:Addr) (C8:Sl) (C9:Int) (self1:(Int)→M (Int × Int)):(Int)→M (Int × Int):=fun s=>match s with
 | Xx6=>do
  M.ite (decide (Xx6 < C9)) (do
   let Xx15←ixL C8 Xx6 1
   let Xx16←ldI .i64 Xx15
   let Xx18←ixA C7 2 0 1
   let Xx19←ldI .u64 Xx18
   let Xx39←ixA C7 2 0 1
   let Xx40←ldI .u64 Xx39
   M.ite (decide ((IntKind.wrap .u64 (Xx19+(IntKind.wrap .u64 Xx16))) < Xx40)) (do
    let Xx41←ixA C7 2 1 1
    let Xx42←ldI .u64 Xx41
    let Xx43←ixA C7 2 1 1
    stV Xx43 (.int .u64 (IntKind.wrap .u64 (Xx42+1)))
    GV self1 C7 Xx16 (IntKind.wrap .u64 (Xx19+(IntKind.wrap .u64 Xx16))) Xx6
    ) (do
    GV self1 C7 Xx16 (IntKind.wrap .u64 (Xx19+(IntKind.wrap .u64 Xx16))) Xx6
    )
   ) (do
   let Xx46←ixA C7 2 0 1
   let Xx47←ldI .u64 Xx46
   M.ite (decide ((IntKind.wrap .i64 Xx47) < 0)) (do
    let Xx51←ixA C7 2 1 1
    let Xx52←ldI .u64 Xx51
    let Xx53←YS (IntKind.wrap .i64 Xx47) (Xx52 == 18446744073709551615)
    M.pure (Xx53.1,Xx53.2)
    ) (do
    let Xx55←ixA C7 2 1 1
    let Xx56←ldI .u64 Xx55
    let Xx57←YS (IntKind.wrap .i64 Xx47) (Xx56 == 0)
    M.pure (Xx57.1,Xx57.2)
    )
   )
def KBi (x0:Sl):M (Int × Int):=do
 let Xx3←mkB J4 (#[.int .u64 0,.int .u64 0]:Array Value)
 M.loop (KAT Xx3 x0 (x0.len:Int)) 0
theorem KHc (x0:Sl):Kg Go.Proofs.Tryz.prog 87 #[(x0:Sl).v] (fun (r:Int × Int)=>.tuple #[.int .i64 r.1,.int .i64 r.2]) (KBi x0) :=
 KI [KCX] [] [.I .i64,.I .i64] [(0,.L x0)] (.q .o (.q .o (.q (.q .o (.b (.l [(4,.A),(9,.L),(10,.I .i64)] [(11,.I .i64)] (fun (t:Addr × Sl × Int)=>KAT t.1 t.2.1 t.2.2) (fun self1=>.q .o (.q .o (.q (.b (.q .o (.q .o (.q .o (.j [(4,.A),(6,.I .i64),(7,.I .u64),(9,.L),(10,.I .i64),(11,.I .i64)] (fun (t:Addr × Int × Int × Sl × Int × Int)=>GV self1 t.1 t.2.1 t.2.2.1 t.2.2.2.2.2) (.q .o (.j [(4,.A),(7,.I .u64),(9,.L),(10,.I .i64),(11,.I .i64)] (fun (t:Addr × Int × Sl × Int × Int)=>GU self1 t.1 t.2.1 t.2.2.2.2) .o))))))) .o)))))) .o))) Go.Proofs.Tryz.func87 rfl rfl ⟨rfl,trivial⟩ rfl (by kernel_rfl) (by kernel_rfl)
noncomputable def KHd:CalleeS Go.Proofs.Tryz.prog:=mkC KGQ KGR [.L] [.I .i64,.I .i64] (fun (t:Sl)=>KBi t) (fun (t:Sl)=>KHc t)
def Nl (C8:Addr) (C9:Sl) (C10:Int) (self1:(Sl × Int)→M (Array Value × Int)):(Sl × Int)→M (Array Value × Int):=fun s=>match s with
 | (Xx6,Xx7)=>do
  M.ite (decide (Xx7 < C10)) (do
   let Xx16←ixL C9 Xx7 4
   let Xx17←ldG 4 Xx16
   let Xx18←mkB KB (#[.int .i64 0,.int .i64 0,.string ByteArray.empty,.slice none 0 0]:Array Value)
   M.need (Xx17.size=4)
   stG Xx18 Xx17
   let Xx22←ldI .i64 ((Xx18).add 0)
   M.ite (Xx22 != 1) (do
    M.need ((#[.int .i64 0,.int .i64 0,.string ByteArray.empty,.slice none 0 0]:Array Value).size=4)
    stG C8 (#[.int .i64 0,.int .i64 0,.string ByteArray.empty,.slice none 0 0]:Array Value)
    let Rr25←ldG 4 C8
    M.pure (Rr25,21)
    ) (do
    let Xx26←ldI .i64 ((Xx18).add 1)
    let Xx27←bdL U9 1 #[.int .i64 Xx26]
    let Xx28←apL U9 1 8 (#[.int .i64 0]:Array Value) Xx6 Xx27
    self1 (Xx28,IntKind.wrap .i64 (Xx7+1))
    )
   ) (do
   let Xx30←KBi Xx6
   M.ite (Xx30.2 != 0) (do
    M.need ((#[.int .i64 0,.int .i64 0,.string ByteArray.empty,.slice none 0 0]:Array Value).size=4)
    stG C8 (#[.int .i64 0,.int .i64 0,.string ByteArray.empty,.slice none 0 0]:Array Value)
    let Rr35←ldG 4 C8
    M.pure (Rr35,Xx30.2)
    ) (do
    let Xx37←Xm Xx30.1
    M.need (Xx37.size=4)
    stG C8 Xx37
    let Rr39←ldG 4 C8
    M.pure (Rr39,0)
    )
   )
def Nm (x0:Sl):M (Array Value × Int):=do
 let Xx2←mkB KB (#[.int .i64 0,.int .i64 0,.string ByteArray.empty,.slice none 0 0]:Array Value)
 M.loop (Nl Xx2 x0 (x0.len:Int)) (Sl.nil,0)
theorem KE1 (x0:Sl):Kg Go.Proofs.Tryz.prog 40 #[(x0:Sl).v] (fun (r:Array Value × Int)=>.tuple #[.agg r.1,.int .i64 r.2]) (Nm x0) :=
 KI [KBg,KHd] [] [.G,.I .i64] [(0,.L x0)] (.q .o (.q .o (.q (.q .o (.b (.l [(2,.A),(9,.L),(10,.I .i64)] [(4,.L),(11,.I .i64)] (fun (t:Addr × Sl × Int)=>Nl t.1 t.2.1 t.2.2) (fun _=>.o)))) .o))) Go.Proofs.Tryz.func40 rfl rfl ⟨rfl,trivial⟩ rfl (by kernel_rfl) (by kernel_rfl)
noncomputable def KE2:CalleeS Go.Proofs.Tryz.prog:=mkC KD0 KD6 [.L] [.G,.I .i64] (fun (t:Sl)=>Nm t) (fun (t:Sl)=>KE1 t)
def Ui (x0:Int) (x1:Int):M (Int × Int):=do
 let Xx4←M.ite (decide (x1 > 0)) (do
  M.pure (decide (x0 > (IntKind.wrap .i64 (9223372036854775807 - x1))))
  ) (do
  M.pure false
  )
 let Xx5←M.ite Xx4 (do
  M.pure true
  ) (do
  let Xx6←M.ite (decide (x1 < 0)) (do
   M.pure (decide (x0 < (IntKind.wrap .i64 ((-9223372036854775808) - x1))))
   ) (do
   M.pure false
   )
  M.pure Xx6
  )
 M.ite Xx5 (do
  M.pure (0,7)
  ) (do
  M.pure (IntKind.wrap .i64 (x0+x1),0)
  )
theorem KAU (x0:Int) (x1:Int):Kg Go.Proofs.Tryz.prog 142 #[.int .i64 x0,.int .i64 x1] (fun (r:Int × Int)=>.tuple #[.int .i64 r.1,.int .i64 r.2]) (Ui x0 x1) :=
 KI [] [] [.I .i64,.I .i64] [(0,.I .i64 x0),(1,.I .i64 x1)] .o Go.Proofs.Tryz.func142 rfl rfl ⟨rfl,rfl,trivial⟩ rfl (by kernel_rfl) (by kernel_rfl)
noncomputable def KAV:CalleeS Go.Proofs.Tryz.prog:=mkC zN zZ [.I .i64,.I .i64] [.I .i64,.I .i64] (fun (t:Int × Int)=>Ui t.1 t.2) (fun (t:Int × Int)=>KAU t.1 t.2)
def UR (self1:(Sl × Sl × Int)→M (Int × Int)) (C15:Int) (Xx12:Sl) (Xx13:Sl):M (Int × Int):=do
 self1 (Xx12,Xx13,IntKind.wrap .i64 (C15+1))
def VA (self2:(Sl × Sl × Int)→M (Int × Int)):(Sl × Sl × Int)→M (Int × Int):=fun s=>match s with
 | (Xx29,Xx30,Xx31)=>do
  let Xx35←M.ite (decide ((Xx29.len:Int) > 0)) (do
   M.pure true
   ) (do
   M.pure (decide ((Xx30.len:Int) > 0))
   )
  M.ite Xx35 (do
   let Xx38←M.ite (decide ((Xx29.len:Int) > 0)) (do
    let Xx39←M.ite (decide (Xx31 ≥ 0)) (do
     M.pure true
     ) (do
     M.pure ((Xx30.len:Int) == 0)
     )
    M.pure Xx39
    ) (do
    M.pure false
    )
   M.ite Xx38 (do
    let Xx41←ixL Xx29 0 1
    let Xx42←ldI .i64 Xx41
    let Xx43←Ui Xx31 Xx42
    M.ite (Xx43.2 != 0) (do
     M.pure (0,Xx43.2)
     ) (do
     let Xx48←slL Xx29 1 Xx29.len 1
     self2 (Xx48,Xx30,Xx43.1)
     )
    ) (do
    let Xx50←ixL Xx30 0 1
    let Xx51←ldI .i64 Xx50
    let Xx52←Ui Xx31 Xx51
    M.ite (Xx52.2 != 0) (do
     M.pure (0,Xx52.2)
     ) (do
     let Xx56←slL Xx30 1 Xx30.len 1
     self2 (Xx29,Xx56,Xx52.1)
     )
    )
   ) (do
   M.pure (Xx31,0)
   )
def Wn (C8:Sl) (self1:(Sl × Sl × Int)→M (Int × Int)):(Sl × Sl × Int)→M (Int × Int):=fun s=>match s with
 | (Xx5,Xx6,Xx7)=>do
  M.ite (decide (Xx7 < (C8.len:Int))) (do
   let Xx17←ixL C8 Xx7 1
   let Xx18←ldI .i64 Xx17
   M.ite (decide (Xx18 < 0)) (do
    let Xx19←ixL C8 Xx7 1
    let Xx20←ldI .i64 Xx19
    let Xx21←bdL U9 1 #[.int .i64 Xx20]
    let Xx22←apL U9 1 8 (#[.int .i64 0]:Array Value) Xx5 Xx21
    UR self1 Xx7 Xx22 Xx6
    ) (do
    let Xx23←ixL C8 Xx7 1
    let Xx24←ldI .i64 Xx23
    let Xx25←bdL U9 1 #[.int .i64 Xx24]
    let Xx26←apL U9 1 8 (#[.int .i64 0]:Array Value) Xx6 Xx25
    UR self1 Xx7 Xx5 Xx26
    )
   ) (do
   M.loop VA (Xx5,Xx6,0)
   )
def VQ (x0:Sl):M (Int × Int):=do
 M.loop (Wn x0) (Sl.nil,Sl.nil,0)
theorem KAW (x0:Sl):Kg Go.Proofs.Tryz.prog 88 #[(x0:Sl).v] (fun (r:Int × Int)=>.tuple #[.int .i64 r.1,.int .i64 r.2]) (VQ x0) :=
 KI [KAV] [] [.I .i64,.I .i64] [(0,.L x0)] (.q .o (.q .o (.q (.q .o (.b (.l [(0,.L)] [(4,.L),(5,.L),(6,.I .i64)] (fun (t:Sl)=>Wn t) (fun self1=>.q .o (.q .o (.j [(0,.L),(6,.I .i64),(4,.L),(5,.L)] (fun (t:Sl × Int × Sl × Sl)=>UR self1 t.2.1 t.2.2.1 t.2.2.2) .o)))))) (.q .o (.q (.b (.l [] [(4,.L),(5,.L),(7,.I .i64)] (fun (t:Unit)=>VA) (fun _=>.q .o (.b (.q (.q .o (.q (.q .o (.q .o (.q (.r [0,0,2,1,15] [0,0,2,1,6] [0,0,2,1,15] (.pu 0 (.pu 1 (.pu 2 (.pu 3 (.pu 4 (.st [0,1,2,3,4] .dn))))))) .o))) .o)) (.q .o (.q .o (.r [0,0,2,1,15] [0,0,2,1,6] [0,0,2,1,15] (.pu 0 (.pu 1 (.pu 2 (.pu 3 (.pu 4 (.st [0,1,2,3,4] .dn)))))))))))))) .o))))) Go.Proofs.Tryz.func88 rfl rfl ⟨rfl,trivial⟩ rfl (by kernel_rfl) (by kernel_rfl)
noncomputable def KAX:CalleeS Go.Proofs.Tryz.prog:=mkC zO za [.L] [.I .i64,.I .i64] (fun (t:Sl)=>VQ t) (fun (t:Sl)=>KAW t)
def Wo (C8:Sl) (C9:Addr) (self1:(Sl × Int)→M (Array Value × Int)):(Sl × Int)→M (Array Value × Int):=fun s=>match s with
 | (Xx6,Xx7)=>do
  M.ite (decide (Xx7 < (C8.len:Int))) (do
   let Xx16←ixL C8 Xx7 4
   let Xx17←ldI .i64 ((Xx16).add 0)
   M.ite (Xx17 != 1) (do
    M.need ((#[.int .i64 0,.int .i64 0,.string ByteArray.empty,.slice none 0 0]:Array Value).size=4)
    stG C9 (#[.int .i64 0,.int .i64 0,.string ByteArray.empty,.slice none 0 0]:Array Value)
    let Rr20←ldG 4 C9
    M.pure (Rr20,21)
    ) (do
    let Xx21←ixL C8 Xx7 4
    let Xx22←ldI .i64 ((Xx21).add 1)
    let Xx23←bdL U9 1 #[.int .i64 Xx22]
    let Xx24←apL U9 1 8 (#[.int .i64 0]:Array Value) Xx6 Xx23
    self1 (Xx24,IntKind.wrap .i64 (Xx7+1))
    )
   ) (do
   let Xx26←VQ Xx6
   M.ite (Xx26.2 != 0) (do
    M.need ((#[.int .i64 0,.int .i64 0,.string ByteArray.empty,.slice none 0 0]:Array Value).size=4)
    stG C9 (#[.int .i64 0,.int .i64 0,.string ByteArray.empty,.slice none 0 0]:Array Value)
    let Rr31←ldG 4 C9
    M.pure (Rr31,Xx26.2)
    ) (do
    let Xx33←Wm Xx26.1
    M.need (Xx33.size=4)
    stG C9 Xx33
    let Rr35←ldG 4 C9
    M.pure (Rr35,0)
    )
   )
def VR (x0:Sl):M (Array Value × Int):=do
 let Xx2←mkB KB (#[.int .i64 0,.int .i64 0,.string ByteArray.empty,.slice none 0 0]:Array Value)
 M.loop (Wo x0 Xx2) (Sl.nil,0)
theorem KAY (x0:Sl):Kg Go.Proofs.Tryz.prog 41 #[(x0:Sl).v] (fun (r:Array Value × Int)=>.tuple #[.agg r.1,.int .i64 r.2]) (VR x0) :=
 KI [KAS,KAX] [] [.G,.I .i64] [(0,.L x0)] (.q .o (.q .o (.q (.q .o (.b (.l [(0,.L),(2,.A)] [(4,.L),(5,.I .i64)] (fun (t:Sl × Addr)=>Wo t.1 t.2) (fun _=>.o)))) .o))) Go.Proofs.Tryz.func41 rfl rfl ⟨rfl,trivial⟩ rfl (by kernel_rfl) (by kernel_rfl)
noncomputable def KAZ:CalleeS Go.Proofs.Tryz.prog:=mkC zS ze [.L] [.G,.I .i64] (fun (t:Sl)=>VR t) (fun (t:Sl)=>KAY t)
def Kp (self1:(Int)→M (Array Value)) (C24:Int):M (Array Value):=do
 self1 (IntKind.wrap .i64 (C24+1))
def Zg (C13:Sl) (C14:Value) (C15:Addr) (C16:Addr) (self1:(Int)→M (Array Value)):(Int)→M (Array Value):=fun s=>match s with
 | Xx12=>do
  M.ite (decide (Xx12 < (C13.len:Int))) (do
   let Xx26←ixL C13 Xx12 4
   let Xx27←ldG 4 Xx26
   let Xx28←ldG 4 C16
   let Xx29←KB2 Go.Proofs.Tryz.prog (fun r:Int=>.int .i64 r) C14 [.agg Xx27,.agg Xx28]
   M.ite (decide (Xx29 < 0)) (do
    let Xx30←ixL C13 Xx12 4
    let Xx31←ldG 4 Xx30
    M.need (Xx31.size=4)
    stG C16 Xx31
    Kp self1 Xx12
    ) (do
    Kp self1 Xx12
    )
   ) (do
   let Xx34←ldG 4 C16
   M.need (Xx34.size=4)
   stG C15 Xx34
   let Rr36←ldG 4 C15
   M.pure Rr36
   )
def K9 (x0:Sl) (x1:Value):M (Array Value):=do
 let Xx2←mkB KB (#[.int .i64 0,.int .i64 0,.string ByteArray.empty,.slice none 0 0]:Array Value)
 M.ite (decide ((x0.len:Int) < 1)) (do
  M.fail
  ) (do
  let Xx6←ixL x0 0 4
  let Xx7←ldG 4 Xx6
  let Xx8←mkB KB (#[.int .i64 0,.int .i64 0,.string ByteArray.empty,.slice none 0 0]:Array Value)
  M.need (Xx7.size=4)
  stG Xx8 Xx7
  M.loop (Zg x0 x1 Xx2 Xx8) 1
  )
theorem Va (x0:Sl) (x1:Value):Kg Go.Proofs.Tryz.prog 89 #[(x0:Sl).v,x1] (fun (r:Array Value)=>.agg r) (K9 x0 x1) :=
 KI [] [] [.G] [(0,.L x0),(1,.V x1)] (.q .o (.q .o (.q .o (.q (.q .o (.b (.l [(0,.L),(1,.V),(4,.A),(5,.A)] [(6,.I .i64)] (fun (t:Sl × Value × Addr × Addr)=>Zg t.1 t.2.1 t.2.2.1 t.2.2.2) (fun self1=>.q .o (.q (.b (.q (.r [0,0,0,6,8,0,49,64] [0,0,0,6,8,0,49,64] [0,0,0,6,14,0,63,127] (.pu 0 (.pu 1 (.pu 2 (.pu 3 (.pu 4 (.pu 5 (.st [6,7] (.on 6 (.pu 7 (.nx .dn))))))))))) .o)) (.j [(0,.L),(1,.V),(4,.A),(5,.A),(6,.I .i64)] (fun (t:Sl × Value × Addr × Addr × Int)=>Kp self1 t.2.2.2.2) .o)))))) .o)))) Go.Proofs.Tryz.func89 rfl rfl ⟨rfl,rfl,trivial⟩ rfl (by kernel_rfl) (by kernel_rfl)
noncomputable def Vb:CalleeS Go.Proofs.Tryz.prog:=mkC VI VM [.L,.V] [.G] (fun (t:Sl × Value)=>K9 t.1 t.2) (fun (t:Sl × Value)=>Va t.1 t.2)
def Nn (x0:Sl):M (Array Value × Int):=do
 let Xx2←mkB KB (#[.int .i64 0,.int .i64 0,.string ByteArray.empty,.slice none 0 0]:Array Value)
 M.ite ((x0.len:Int) == 0) (do
  M.need ((#[.int .i64 0,.int .i64 0,.string ByteArray.empty,.slice none 0 0]:Array Value).size=4)
  stG Xx2 (#[.int .i64 0,.int .i64 0,.string ByteArray.empty,.slice none 0 0]:Array Value)
  let Rr7←ldG 4 Xx2
  M.pure (Rr7,4)
  ) (do
  let Xx9←K9 x0 (Value.func (.func Jl) #[] #[])
  let Xx10←WM Xx9
  M.need (Xx10.size=4)
  stG Xx2 Xx10
  let Rr12←ldG 4 Xx2
  M.pure (Rr12,0)
  )
theorem KE3 (x0:Sl):Kg Go.Proofs.Tryz.prog 42 #[(x0:Sl).v] (fun (r:Array Value × Int)=>.tuple #[.agg r.1,.int .i64 r.2]) (Nn x0) :=
 KI [G8,Vb] [] [.G,.I .i64] [(0,.L x0)] .o Go.Proofs.Tryz.func42 rfl rfl ⟨rfl,trivial⟩ rfl (by kernel_rfl) (by kernel_rfl)
noncomputable def KE4:CalleeS Go.Proofs.Tryz.prog:=mkC KDy KD5 [.L] [.G,.I .i64] (fun (t:Sl)=>Nn t) (fun (t:Sl)=>KE3 t)
def J8 (self1:(Int)→M (Array Value × Int)) (C27:Int):M (Array Value × Int):=do
 self1 (IntKind.wrap .i64 (C27+1))
def WP (C16:Sl) (C17:Int) (C18:Addr) (C19:Addr) (self1:(Int)→M (Array Value × Int)):(Int)→M (Array Value × Int):=fun s=>match s with
 | Xx15=>do
  M.ite (decide (Xx15 < (C16.len:Int))) (do
   let Xx29←ixL C16 Xx15 4
   let Xx30←ldG 4 Xx29
   let Xx31←ldG 4 C19
   let Xx32←Z6 Xx30 Xx31
   M.ite (Xx32 == C17) (do
    let Xx33←ixL C16 Xx15 4
    let Xx34←ldG 4 Xx33
    M.need (Xx34.size=4)
    stG C19 Xx34
    J8 self1 Xx15
    ) (do
    J8 self1 Xx15
    )
   ) (do
   let Xx37←ldG 4 C19
   M.need (Xx37.size=4)
   stG C18 Xx37
   let Rr39←ldG 4 C18
   M.pure (Rr39,0)
   )
def UN (x0:Sl) (x1:Int):M (Array Value × Int):=do
 let Xx2←mkB KB (#[.int .i64 0,.int .i64 0,.string ByteArray.empty,.slice none 0 0]:Array Value)
 M.ite ((x0.len:Int) == 0) (do
  M.need ((#[.int .i64 0,.int .i64 0,.string ByteArray.empty,.slice none 0 0]:Array Value).size=4)
  stG Xx2 (#[.int .i64 0,.int .i64 0,.string ByteArray.empty,.slice none 0 0]:Array Value)
  let Rr7←ldG 4 Xx2
  M.pure (Rr7,4)
  ) (do
  let Xx9←ixL x0 0 4
  let Xx10←ldG 4 Xx9
  let Xx11←mkB KB (#[.int .i64 0,.int .i64 0,.string ByteArray.empty,.slice none 0 0]:Array Value)
  M.need (Xx10.size=4)
  stG Xx11 Xx10
  M.loop (WP x0 x1 Xx2 Xx11) 1
  )
theorem zp (x0:Sl) (x1:Int):Kg Go.Proofs.Tryz.prog 90 #[(x0:Sl).v,.int .i64 x1] (fun (r:Array Value × Int)=>.tuple #[.agg r.1,.int .i64 r.2]) (UN x0 x1) :=
 KI [Yf] [] [.G,.I .i64] [(0,.L x0),(1,.I .i64 x1)] (.q .o (.q .o (.q .o (.q (.q .o (.b (.l [(0,.L),(1,.I .i64),(4,.A),(6,.A)] [(7,.I .i64)] (fun (t:Sl × Int × Addr × Addr)=>WP t.1 t.2.1 t.2.2.1 t.2.2.2) (fun self1=>.q .o (.q (.b (.q (.r [0,0,3,4,0,24,0,96] [0,0,3,4,0,24,0,96] [0,0,3,7,0,31,0,127] (.pu 0 (.pu 1 (.pu 2 (.pu 6 (.pu 3 (.pu 4 (.st [5,7] (.on 5 (.pu 7 (.nx .dn))))))))))) .o)) (.j [(0,.L),(1,.I .i64),(4,.A),(6,.A),(7,.I .i64)] (fun (t:Sl × Int × Addr × Addr × Int)=>J8 self1 t.2.2.2.2) .o)))))) .o)))) Go.Proofs.Tryz.func90 rfl rfl ⟨rfl,rfl,trivial⟩ rfl (by kernel_rfl) (by kernel_rfl)
noncomputable def X7:CalleeS Go.Proofs.Tryz.prog:=mkC qZ qh [.L,.I .i64] [.G,.I .i64] (fun (t:Sl × Int)=>UN t.1 t.2) (fun (t:Sl × Int)=>zp t.1 t.2)
def VS (x0:Sl):M (Array Value × Int):=do
 let Xx2←mkB KB (#[.int .i64 0,.int .i64 0,.string ByteArray.empty,.slice none 0 0]:Array Value)
 let Xx4←UN x0 (-1)
 M.need (Xx4.1.size=4)
 stG Xx2 Xx4.1
 let Rr6←ldG 4 Xx2
 M.pure (Rr6,Xx4.2)
theorem KAa (x0:Sl):Kg Go.Proofs.Tryz.prog 43 #[(x0:Sl).v] (fun (r:Array Value × Int)=>.tuple #[.agg r.1,.int .i64 r.2]) (VS x0) :=
 KI [X7] [] [.G,.I .i64] [(0,.L x0)] .o Go.Proofs.Tryz.func43 rfl rfl ⟨rfl,trivial⟩ rfl (by kernel_rfl) (by kernel_rfl)
noncomputable def KAb:CalleeS Go.Proofs.Tryz.prog:=mkC zR zd [.L] [.G,.I .i64] (fun (t:Sl)=>VS t) (fun (t:Sl)=>KAa t)
def Kt (self1:(Int)→M (Array Value)) (C24:Int):M (Array Value):=do
 self1 (IntKind.wrap .i64 (C24+1))
def Zh (C13:Sl) (C14:Value) (C15:Addr) (C16:Addr) (self1:(Int)→M (Array Value)):(Int)→M (Array Value):=fun s=>match s with
 | Xx12=>do
  M.ite (decide (Xx12 < (C13.len:Int))) (do
   let Xx26←ixL C13 Xx12 4
   let Xx27←ldG 4 Xx26
   let Xx28←ldG 4 C16
   let Xx29←KB2 Go.Proofs.Tryz.prog (fun r:Int=>.int .i64 r) C14 [.agg Xx27,.agg Xx28]
   M.ite (decide (Xx29 > 0)) (do
    let Xx30←ixL C13 Xx12 4
    let Xx31←ldG 4 Xx30
    M.need (Xx31.size=4)
    stG C16 Xx31
    Kt self1 Xx12
    ) (do
    Kt self1 Xx12
    )
   ) (do
   let Xx34←ldG 4 C16
   M.need (Xx34.size=4)
   stG C15 Xx34
   let Rr36←ldG 4 C15
   M.pure Rr36
   )
def ZA (x0:Sl) (x1:Value):M (Array Value):=do
 let Xx2←mkB KB (#[.int .i64 0,.int .i64 0,.string ByteArray.empty,.slice none 0 0]:Array Value)
 M.ite (decide ((x0.len:Int) < 1)) (do
  M.fail
  ) (do
  let Xx6←ixL x0 0 4
  let Xx7←ldG 4 Xx6
  let Xx8←mkB KB (#[.int .i64 0,.int .i64 0,.string ByteArray.empty,.slice none 0 0]:Array Value)
  M.need (Xx7.size=4)
  stG Xx8 Xx7
  M.loop (Zh x0 x1 Xx2 Xx8) 1
  )
theorem Vc (x0:Sl) (x1:Value):Kg Go.Proofs.Tryz.prog 91 #[(x0:Sl).v,x1] (fun (r:Array Value)=>.agg r) (ZA x0 x1) :=
 KI [] [] [.G] [(0,.L x0),(1,.V x1)] (.q .o (.q .o (.q .o (.q (.q .o (.b (.l [(0,.L),(1,.V),(4,.A),(5,.A)] [(6,.I .i64)] (fun (t:Sl × Value × Addr × Addr)=>Zh t.1 t.2.1 t.2.2.1 t.2.2.2) (fun self1=>.q .o (.q (.b (.q (.r [0,0,0,6,8,0,49,64] [0,0,0,6,8,0,49,64] [0,0,0,6,14,0,63,127] (.pu 0 (.pu 1 (.pu 2 (.pu 3 (.pu 4 (.pu 5 (.st [6,7] (.on 6 (.pu 7 (.nx .dn))))))))))) .o)) (.j [(0,.L),(1,.V),(4,.A),(5,.A),(6,.I .i64)] (fun (t:Sl × Value × Addr × Addr × Int)=>Kt self1 t.2.2.2.2) .o)))))) .o)))) Go.Proofs.Tryz.func91 rfl rfl ⟨rfl,rfl,trivial⟩ rfl (by kernel_rfl) (by kernel_rfl)
noncomputable def Vd:CalleeS Go.Proofs.Tryz.prog:=mkC VH VL [.L,.V] [.G] (fun (t:Sl × Value)=>ZA t.1 t.2) (fun (t:Sl × Value)=>Vc t.1 t.2)
def No (x0:Sl):M (Array Value × Int):=do
 let Xx2←mkB KB (#[.int .i64 0,.int .i64 0,.string ByteArray.empty,.slice none 0 0]:Array Value)
 M.ite ((x0.len:Int) == 0) (do
  M.need ((#[.int .i64 0,.int .i64 0,.string ByteArray.empty,.slice none 0 0]:Array Value).size=4)
  stG Xx2 (#[.int .i64 0,.int .i64 0,.string ByteArray.empty,.slice none 0 0]:Array Value)
  let Rr7←ldG 4 Xx2
  M.pure (Rr7,4)
  ) (do
  let Xx9←ZA x0 (Value.func (.func Jl) #[] #[])
  let Xx10←WM Xx9
  M.need (Xx10.size=4)
  stG Xx2 Xx10
  let Rr12←ldG 4 Xx2
  M.pure (Rr12,0)
  )
theorem KE5 (x0:Sl):Kg Go.Proofs.Tryz.prog 44 #[(x0:Sl).v] (fun (r:Array Value × Int)=>.tuple #[.agg r.1,.int .i64 r.2]) (No x0) :=
 KI [G8,Vd] [] [.G,.I .i64] [(0,.L x0)] .o Go.Proofs.Tryz.func44 rfl rfl ⟨rfl,trivial⟩ rfl (by kernel_rfl) (by kernel_rfl)
noncomputable def KE6:CalleeS Go.Proofs.Tryz.prog:=mkC KDx KD4 [.L] [.G,.I .i64] (fun (t:Sl)=>No t) (fun (t:Sl)=>KE5 t)
def VT (x0:Sl):M (Array Value × Int):=do
 let Xx2←mkB KB (#[.int .i64 0,.int .i64 0,.string ByteArray.empty,.slice none 0 0]:Array Value)
 let Xx4←UN x0 1
 M.need (Xx4.1.size=4)
 stG Xx2 Xx4.1
 let Rr6←ldG 4 Xx2
 M.pure (Rr6,Xx4.2)
theorem KAc (x0:Sl):Kg Go.Proofs.Tryz.prog 45 #[(x0:Sl).v] (fun (r:Array Value × Int)=>.tuple #[.agg r.1,.int .i64 r.2]) (VT x0) :=
 KI [X7] [] [.G,.I .i64] [(0,.L x0)] .o Go.Proofs.Tryz.func45 rfl rfl ⟨rfl,trivial⟩ rfl (by kernel_rfl) (by kernel_rfl)
noncomputable def KAd:CalleeS Go.Proofs.Tryz.prog:=mkC zQ zc [.L] [.G,.I .i64] (fun (t:Sl)=>VT t) (fun (t:Sl)=>KAc t)
def GW (x0:ByteArray):M (Bool):=do
 let Xx4←M.ite (sEq x0 ByteArray.empty) (do
  M.pure true
  ) (do
  M.pure (decide ((x0.size:Int) > 24))
  )
 let Xx5←M.ite Xx4 (do
  M.pure true
  ) (do
  let Xx6←ixS x0 0
  let Xx7←M.ite (decide (Xx6 ≥ 48)) (do
   let Xx8←ixS x0 0
   M.pure (decide (Xx8≤57))
   ) (do
   M.pure false
   )
  M.pure Xx7
  )
 M.ite Xx5 (do
  M.pure false
  ) (do
  let Xx11←WT x0 (⟨#[97,98,99,100,101,102,103,104,105,106,107,108,109,110,111,112,113,114,115,116,117,118,119,120,121,122,65,66,67,68,69,70,71,72,73,74,75,76,77,78,79,80,81,82,83,84,85,86,87,88,89,90,48,49,50,51,52,53,54,55,56,57,95]⟩:ByteArray)
  M.pure (sEq Xx11 ByteArray.empty)
  )
theorem KEI (x0:ByteArray):Kg Go.Proofs.Tryz.prog 46 #[.string x0] (fun (r:Bool)=>.bool r) (GW x0) :=
 KI [mkC KBV KBY [.S,.S] [.S] (fun (t:ByteArray × ByteArray)=>WT t.1 t.2) (fun (t:ByteArray × ByteArray)=>KCH t.1 t.2)] [] [.B] [(0,.S x0)] .o Go.Proofs.Tryz.func46 rfl rfl ⟨rfl,trivial⟩ rfl (by kernel_rfl) (by kernel_rfl)
noncomputable def KEJ:CalleeS Go.Proofs.Tryz.prog:=mkC KCy KC3 [.S] [.B] (fun (t:ByteArray)=>GW t) (fun (t:ByteArray)=>KEI t)
def Jh (x0:Int):M (Bool):=do
 let Xx3←M.ite (x0 == 95) (do
  M.pure true
  ) (do
  let Xx4←M.ite (decide (x0 ≥ 97)) (do
   M.pure (decide (x0≤122))
   ) (do
   M.pure false
   )
  M.pure Xx4
  )
 let Xx5←M.ite Xx3 (do
  M.pure true
  ) (do
  let Xx6←M.ite (decide (x0 ≥ 65)) (do
   M.pure (decide (x0≤90))
   ) (do
   M.pure false
   )
  M.pure Xx6
  )
 M.pure Xx5
theorem qA (x0:Int):Kg Go.Proofs.Tryz.prog 93 #[.int .u8 x0] (fun (r:Bool)=>.bool r) (Jh x0) :=
 KI [] [] [.B] [(0,.I .u8 x0)] .o Go.Proofs.Tryz.func93 rfl rfl ⟨rfl,trivial⟩ rfl (by kernel_rfl) (by kernel_rfl)
noncomputable def qB:CalleeS Go.Proofs.Tryz.prog:=mkC NZ Nc [.I .u8] [.B] (fun (t:Int)=>Jh t) (fun (t:Int)=>qA t)
def WQ (C12:ByteArray) (self1:(Int)→M (Bool)):(Int)→M (Bool):=fun s=>match s with
 | Xx11=>do
  M.ite (decide (Xx11 < (C12.size:Int))) (do
   let Xx18←ixS C12 Xx11
   let Xx19←Jh Xx18
   let Xx20←M.ite (!Xx19) (do
    let Xx21←ixS C12 Xx11
    let Xx22←M.ite (decide (Xx21 < 48)) (do
     M.pure true
     ) (do
     let Xx23←ixS C12 Xx11
     M.pure (decide (Xx23 > 57))
     )
    M.pure Xx22
    ) (do
    M.pure false
    )
   M.ite Xx20 (do
    M.pure false
    ) (do
    self1 (IntKind.wrap .i64 (Xx11+1))
    )
   ) (do
   M.pure true
   )
def Uy (x0:ByteArray):M (Bool):=do
 let Xx4←M.ite (sEq x0 ByteArray.empty) (do
  M.pure true
  ) (do
  M.pure (decide ((x0.size:Int) > 24))
  )
 let Xx5←M.ite Xx4 (do
  M.pure true
  ) (do
  let Xx6←ixS x0 0
  let Xx7←Jh Xx6
  M.pure (!Xx7)
  )
 M.ite Xx5 (do
  M.pure false
  ) (do
  M.loop (WQ x0) 0
  )
theorem zq (x0:ByteArray):Kg Go.Proofs.Tryz.prog 47 #[.string x0] (fun (r:Bool)=>.bool r) (Uy x0) :=
 KI [qB] [] [.B] [(0,.S x0)] (.q .o (.q .o (.q (.q .o (.b (.l [(0,.S)] [(3,.I .i64)] (fun (t:ByteArray)=>WQ t) (fun _=>.o)))) .o))) Go.Proofs.Tryz.func47 rfl rfl ⟨rfl,trivial⟩ rfl (by kernel_rfl) (by kernel_rfl)
noncomputable def zr:CalleeS Go.Proofs.Tryz.prog:=mkC qX qf [.S] [.B] (fun (t:ByteArray)=>Uy t) (fun (t:ByteArray)=>zq t)
def VU (x0:Sl) (x1:ByteArray):M (Bool):=do
 let Xx3←Nm x0
 let Xx4←mkB KB (#[.int .i64 0,.int .i64 0,.string ByteArray.empty,.slice none 0 0]:Array Value)
 M.need (Xx3.1.size=4)
 stG Xx4 Xx3.1
 let Xx7←VR x0
 let Xx8←mkB KB (#[.int .i64 0,.int .i64 0,.string ByteArray.empty,.slice none 0 0]:Array Value)
 M.need (Xx7.1.size=4)
 stG Xx8 Xx7.1
 let Xx11←Nn x0
 let Xx12←mkB KB (#[.int .i64 0,.int .i64 0,.string ByteArray.empty,.slice none 0 0]:Array Value)
 M.need (Xx11.1.size=4)
 stG Xx12 Xx11.1
 let Xx15←VS x0
 let Xx16←mkB KB (#[.int .i64 0,.int .i64 0,.string ByteArray.empty,.slice none 0 0]:Array Value)
 M.need (Xx15.1.size=4)
 stG Xx16 Xx15.1
 let Xx19←No x0
 let Xx20←mkB KB (#[.int .i64 0,.int .i64 0,.string ByteArray.empty,.slice none 0 0]:Array Value)
 M.need (Xx19.1.size=4)
 stG Xx20 Xx19.1
 let Xx23←VT x0
 let Xx24←mkB KB (#[.int .i64 0,.int .i64 0,.string ByteArray.empty,.slice none 0 0]:Array Value)
 M.need (Xx23.1.size=4)
 stG Xx24 Xx23.1
 let Xx27←Uh
 let Xx28←M.ite Xx27 (do
  let Xx29←ldG 4 Xx4
  let Xx30←ldG 4 Xx8
  let Xx31←Z4 Xx29 Xx30
  M.pure Xx31
  ) (do
  M.pure false
  )
 let Xx32←M.ite Xx28 (do
  M.pure (Xx3.2 == Xx7.2)
  ) (do
  M.pure false
  )
 let Xx33←M.ite Xx32 (do
  let Xx34←ldG 4 Xx12
  let Xx35←ldG 4 Xx16
  let Xx36←Z4 Xx34 Xx35
  M.pure Xx36
  ) (do
  M.pure false
  )
 let Xx37←M.ite Xx33 (do
  M.pure (Xx11.2 == Xx15.2)
  ) (do
  M.pure false
  )
 let Xx38←M.ite Xx37 (do
  let Xx39←ldG 4 Xx20
  let Xx40←ldG 4 Xx24
  let Xx41←Z4 Xx39 Xx40
  M.pure Xx41
  ) (do
  M.pure false
  )
 let Xx42←M.ite Xx38 (do
  M.pure (Xx19.2 == Xx23.2)
  ) (do
  M.pure false
  )
 let Xx43←M.ite Xx42 (do
  let Xx44←GW x1
  let Xx45←Uy x1
  M.pure (Xx44 == Xx45)
  ) (do
  M.pure false
  )
 M.pure Xx43
theorem G9 (x0:Sl) (x1:ByteArray):Kg Go.Proofs.Tryz.prog 8 #[(x0:Sl).v,.string x1] (fun (r:Bool)=>.bool r) (VU x0 x1) :=
 KI [qt,X6,KE2,KAZ,KE4,KAb,KE6,KAd,KEJ,zr] [] [.B] [(0,.L x0),(1,.S x1)] .o Go.Proofs.Tryz.func8 rfl rfl ⟨rfl,rfl,trivial⟩ rfl (by kernel_rfl) (by kernel_rfl)
end Gx
