/- Part of the proof that the law CommitsMembers holds. -/
import Derived.Test.YtegbaopejhpnkaaGreatDoorProg
import Derived.Shelf.Small.Bits
import Derived.Shelf.Strconv.Itoa0
import Derived.Shelf.Bits.Mul64
import Derived.Ground.Names2Prog
import Derived.Shelf.Slices.CompactI
import Derived.Shelf.Slices.SearchI
import Derived.Shelf.Slices.Cells
import Derived.Lib.BitFns
import Derived.Test.YtegbaopejhpnkaaGreatDoorAa
import Derived.Test.YtegbaopejhpnkaaGreatDoorAg
namespace Go.Chx
open Go Go.Proofs
theorem mo:Tryz.prog.follows .mixedOrders=true:=by kernel_rfl
theorem Ai:Ty Tryz.prog 3 false 1 8:=Cy (by kernel_rfl)
theorem Is:Ty Tryz.prog 4 false 1 1:=Cy (by kernel_rfl)
theorem Bv:Ty Tryz.prog 5 false 1 1:=Cy (by kernel_rfl)
theorem G4:Ty Tryz.prog 9 false 1 16:=Cy (by kernel_rfl)
theorem Dc:Ty Tryz.prog 23 true 32 32:=Cy (by kernel_rfl)
theorem Dl:Ty Tryz.prog 24 false 1 24:=Cy (by kernel_rfl)
theorem Ju:Ty Tryz.prog 25 false 1 24:=Cy (by kernel_rfl)
theorem B1:Ty Tryz.prog 27 true 1 24:=Cy (by kernel_rfl)
theorem B4:Ty Tryz.prog 29 true 36 96:=Cy (by kernel_rfl)
theorem Et:Ty Tryz.prog 30 false 1 24:=Cy (by kernel_rfl)
theorem Eg:Ty Tryz.prog 31 false 1 24:=Cy (by kernel_rfl)
theorem Db:Ty Tryz.prog 32 false 1 24:=Cy (by kernel_rfl)
theorem D5:Ty Tryz.prog 33 false 1 24:=Cy (by kernel_rfl)
theorem In:Ty Tryz.prog 35 true 2 16:=Cy (by kernel_rfl)
theorem Bk:Ty Tryz.prog 37 true 73 200:=Cy (by kernel_rfl)
theorem ty_41:Ty Tryz.prog 41 false 1 8:=Cy (by kernel_rfl)
theorem Dk:Ty Tryz.prog 45 true 3 24:=Cy (by kernel_rfl)
theorem Cp:Ty Tryz.prog 49 true 5 40:=Cy (by kernel_rfl)
theorem Bt:Ty Tryz.prog 53 false 1 24:=Cy (by kernel_rfl)
theorem B3:Ty Tryz.prog 59 false 1 24:=Cy (by kernel_rfl)
theorem Bi:Ty Tryz.prog 61 true 4 56:=Cy (by kernel_rfl)
theorem Bb:Ty Tryz.prog 67 true 32 32:=Cy (by kernel_rfl)
theorem ty_71:Ty Tryz.prog 71 false 1 24:=Cy (by kernel_rfl)
theorem ty_76:Ty Tryz.prog 76 false 1 8:=Cy (by kernel_rfl)
theorem Ct:Ty Tryz.prog 85 true 2 32:=Cy (by kernel_rfl)
theorem Gk:Ty Tryz.prog 87 true 3 40:=Cy (by kernel_rfl)
theorem E1:Ty Tryz.prog 91 true 4 48:=Cy (by kernel_rfl)
theorem ty_124:Ty Tryz.prog 124 false 1 8:=Cy (by kernel_rfl)
theorem ty_153:Ty Tryz.prog 153 false 1 8:=Cy (by kernel_rfl)
theorem ty_155:Ty Tryz.prog 155 false 1 8:=Cy (by kernel_rfl)
theorem ty_160:Ty Tryz.prog 160 false 1 8:=Cy (by kernel_rfl)
theorem ty_169:Ty Tryz.prog 169 true 2 16:=Cy (by kernel_rfl)
theorem ty_173:Ty Tryz.prog 173 true 12 12:=Cy (by kernel_rfl)
theorem ty_184:Ty Tryz.prog 184 true 3 24:=Cy (by kernel_rfl)
theorem J6:Ty Tryz.prog 197 false 1 8:=Cy (by kernel_rfl)
theorem ty_199:Ty Tryz.prog 199 true 1 8:=Cy (by kernel_rfl)
theorem ty_200:Ty Tryz.prog 200 false 1 8:=Cy (by kernel_rfl)
theorem Fw:Ty Tryz.prog 205 false 1 8:=Cy (by kernel_rfl)
theorem ty_207:Ty Tryz.prog 207 false 1 24:=Cy (by kernel_rfl)
theorem ty_220:Ty Tryz.prog 220 false 1 1:=Cy (by kernel_rfl)
theorem ty_222:Ty Tryz.prog 222 true 3 40:=Cy (by kernel_rfl)
theorem Jd:Ty Tryz.prog 234 true 2 16:=Cy (by kernel_rfl)
theorem Az:Ty Tryz.prog 252 false 1 4:=Cy (by kernel_rfl)
theorem ty_292:Ty Tryz.prog 292 true 8 32:=Cy (by kernel_rfl)
theorem ty_293:Ty Tryz.prog 293 true 8 32:=Cy (by kernel_rfl)
theorem ty_317:Ty Tryz.prog 317 true 4 4:=Cy (by kernel_rfl)
theorem ty_332:Ty Tryz.prog 332 true 16 64:=Cy (by kernel_rfl)
theorem Jk:D3 Tryz.prog 27 0=some (0,25):=by kernel_rfl
theorem fld_29_0:D3 Tryz.prog 29 0=some (0,3):=by kernel_rfl
theorem F3:D3 Tryz.prog 29 1=some (1,3):=by kernel_rfl
theorem fld_29_2:D3 Tryz.prog 29 2=some (2,23):=by kernel_rfl
theorem Dg:D3 Tryz.prog 29 3=some (34,24):=by kernel_rfl
theorem Ia:D3 Tryz.prog 29 4=some (35,27):=by kernel_rfl
theorem H9:D3 Tryz.prog 35 0=some (0,3):=by kernel_rfl
theorem Km:D3 Tryz.prog 35 1=some (1,3):=by kernel_rfl
theorem Jj:D3 Tryz.prog 37 0=some (0,3):=by kernel_rfl
theorem Fj:D3 Tryz.prog 37 1=some (1,3):=by kernel_rfl
theorem Kl:D3 Tryz.prog 37 2=some (2,23):=by kernel_rfl
theorem H8:D3 Tryz.prog 37 3=some (34,3):=by kernel_rfl
theorem Es:D3 Tryz.prog 37 4=some (35,30):=by kernel_rfl
theorem Gn:D3 Tryz.prog 37 5=some (36,31):=by kernel_rfl
theorem D7:D3 Tryz.prog 37 6=some (37,32):=by kernel_rfl
theorem D2:D3 Tryz.prog 37 7=some (38,33):=by kernel_rfl
theorem fld_37_8:D3 Tryz.prog 37 8=some (39,23):=by kernel_rfl
theorem H7:D3 Tryz.prog 37 9=some (71,35):=by kernel_rfl
theorem fld_45_0:D3 Tryz.prog 45 0=some (0,3):=by kernel_rfl
theorem fld_45_1:D3 Tryz.prog 45 1=some (1,3):=by kernel_rfl
theorem fld_45_2:D3 Tryz.prog 45 2=some (2,3):=by kernel_rfl
theorem F0:D3 Tryz.prog 49 0=some (0,3):=by kernel_rfl
theorem Ds:D3 Tryz.prog 49 1=some (1,3):=by kernel_rfl
theorem Kk:D3 Tryz.prog 49 2=some (2,3):=by kernel_rfl
theorem H6:D3 Tryz.prog 49 3=some (3,3):=by kernel_rfl
theorem fld_49_4:D3 Tryz.prog 49 4=some (4,3):=by kernel_rfl
theorem Bq:D3 Tryz.prog 61 0=some (0,3):=by kernel_rfl
theorem Er:D3 Tryz.prog 61 1=some (1,3):=by kernel_rfl
theorem Eq:D3 Tryz.prog 61 2=some (2,9):=by kernel_rfl
theorem Cd:D3 Tryz.prog 61 3=some (3,59):=by kernel_rfl
theorem Kj:D3 Tryz.prog 85 0=some (0,3):=by kernel_rfl
theorem H5:D3 Tryz.prog 85 1=some (1,53):=by kernel_rfl
theorem Ki:D3 Tryz.prog 87 0=some (0,3):=by kernel_rfl
theorem E4:D3 Tryz.prog 87 1=some (1,85):=by kernel_rfl
theorem Hc:D3 Tryz.prog 91 0=some (0,3):=by kernel_rfl
theorem Hb:D3 Tryz.prog 91 1=some (1,3):=by kernel_rfl
theorem Fi:D3 Tryz.prog 91 2=some (2,85):=by kernel_rfl
theorem I6:D3 Tryz.prog 134 0=some (0,53):=by kernel_rfl
theorem fld_169_0:D3 Tryz.prog 169 0=some (0,3):=by kernel_rfl
theorem fld_169_1:D3 Tryz.prog 169 1=some (1,76):=by kernel_rfl
theorem Ko:D3 Tryz.prog 199 0=some (0,197):=by kernel_rfl
theorem C2:D3 Tryz.prog 222 0=some (0,53):=by kernel_rfl
theorem I5:D3 Tryz.prog 222 1=some (1,3):=by kernel_rfl
theorem fld_222_2:D3 Tryz.prog 222 2=some (2,220):=by kernel_rfl
theorem Kn:D3 Tryz.prog 224 0=some (0,222):=by kernel_rfl
theorem E5:D3 Tryz.prog 234 0=some (0,3):=by kernel_rfl
theorem fld_234_1:D3 Tryz.prog 234 1=some (1,3):=by kernel_rfl
theorem fb_8:Aq Tryz.prog 8=true:=by kernel_rfl
theorem fb_9:Aq Tryz.prog 9=true:=by kernel_rfl
theorem fb_10:Aq Tryz.prog 10=true:=by kernel_rfl
theorem fb_11:Aq Tryz.prog 11=true:=by kernel_rfl
theorem fb_12:Aq Tryz.prog 12=true:=by kernel_rfl
theorem fb_13:Aq Tryz.prog 13=true:=by kernel_rfl
theorem fb_14:Aq Tryz.prog 14=true:=by kernel_rfl
theorem fb_15:Aq Tryz.prog 15=true:=by kernel_rfl
theorem fb_16:Aq Tryz.prog 16=true:=by kernel_rfl
theorem fb_17:Aq Tryz.prog 17=true:=by kernel_rfl
theorem fb_18:Aq Tryz.prog 18=true:=by kernel_rfl
theorem fb_19:Aq Tryz.prog 19=true:=by kernel_rfl
theorem fb_20:Aq Tryz.prog 20=true:=by kernel_rfl
theorem fb_21:Aq Tryz.prog 21=true:=by kernel_rfl
theorem fb_23:Aq Tryz.prog 23=true:=by kernel_rfl
theorem fb_24:Aq Tryz.prog 24=true:=by kernel_rfl
theorem fb_25:Aq Tryz.prog 25=true:=by kernel_rfl
theorem fb_26:Aq Tryz.prog 26=true:=by kernel_rfl
theorem fb_27:Aq Tryz.prog 27=true:=by kernel_rfl
theorem fb_28:Aq Tryz.prog 28=true:=by kernel_rfl
theorem fb_29:Aq Tryz.prog 29=true:=by kernel_rfl
theorem fb_37:Aq Tryz.prog 37=true:=by kernel_rfl
theorem fb_42:Aq Tryz.prog 42=true:=by kernel_rfl
theorem fb_43:Aq Tryz.prog 43=true:=by kernel_rfl
theorem fb_44:Aq Tryz.prog 44=true:=by kernel_rfl
theorem fb_45:Aq Tryz.prog 45=true:=by kernel_rfl
theorem fb_46:Aq Tryz.prog 46=true:=by kernel_rfl
theorem fb_47:Aq Tryz.prog 47=true:=by kernel_rfl
theorem fb_48:Aq Tryz.prog 48=true:=by kernel_rfl
theorem fb_49:Aq Tryz.prog 49=true:=by kernel_rfl
theorem fb_50:Aq Tryz.prog 50=true:=by kernel_rfl
theorem fb_51:Aq Tryz.prog 51=true:=by kernel_rfl
theorem fb_52:Aq Tryz.prog 52=true:=by kernel_rfl
theorem fb_53:Aq Tryz.prog 53=true:=by kernel_rfl
theorem fb_54:Aq Tryz.prog 54=true:=by kernel_rfl
theorem fb_55:Aq Tryz.prog 55=true:=by kernel_rfl
theorem fb_56:Aq Tryz.prog 56=true:=by kernel_rfl
theorem fb_57:Aq Tryz.prog 57=true:=by kernel_rfl
theorem fb_58:Aq Tryz.prog 58=true:=by kernel_rfl
theorem fb_59:Aq Tryz.prog 59=true:=by kernel_rfl
theorem fb_60:Aq Tryz.prog 60=true:=by kernel_rfl
theorem fb_62:Aq Tryz.prog 62=true:=by kernel_rfl
theorem fb_63:Aq Tryz.prog 63=true:=by kernel_rfl
theorem fb_64:Aq Tryz.prog 64=true:=by kernel_rfl
theorem fb_65:Aq Tryz.prog 65=true:=by kernel_rfl
theorem fb_66:Aq Tryz.prog 66=true:=by kernel_rfl
theorem fb_67:Aq Tryz.prog 67=true:=by kernel_rfl
theorem fb_68:Aq Tryz.prog 68=true:=by kernel_rfl
theorem J2:Aq Tryz.prog 69=true:=by kernel_rfl
theorem fb_70:Aq Tryz.prog 70=true:=by kernel_rfl
theorem fb_71:Aq Tryz.prog 71=true:=by kernel_rfl
theorem fb_72:Aq Tryz.prog 72=true:=by kernel_rfl
theorem fb_73:Aq Tryz.prog 73=true:=by kernel_rfl
theorem fb_74:Aq Tryz.prog 74=true:=by kernel_rfl
theorem fb_75:Aq Tryz.prog 75=true:=by kernel_rfl
theorem fb_76:Aq Tryz.prog 76=true:=by kernel_rfl
theorem fb_77:Aq Tryz.prog 77=true:=by kernel_rfl
theorem fb_78:Aq Tryz.prog 78=true:=by kernel_rfl
theorem fb_79:Aq Tryz.prog 79=true:=by kernel_rfl
theorem fb_80:Aq Tryz.prog 80=true:=by kernel_rfl
theorem fb_81:Aq Tryz.prog 81=true:=by kernel_rfl
theorem fb_82:Aq Tryz.prog 82=true:=by kernel_rfl
theorem fb_83:Aq Tryz.prog 83=true:=by kernel_rfl
theorem fb_84:Aq Tryz.prog 84=true:=by kernel_rfl
theorem fb_85:Aq Tryz.prog 85=true:=by kernel_rfl
theorem fb_89:Aq Tryz.prog 89=true:=by kernel_rfl
theorem fb_90:Aq Tryz.prog 90=true:=by kernel_rfl
theorem fb_91:Aq Tryz.prog 91=true:=by kernel_rfl
theorem fb_92:Aq Tryz.prog 92=true:=by kernel_rfl
theorem fb_93:Aq Tryz.prog 93=true:=by kernel_rfl
theorem fb_94:Aq Tryz.prog 94=true:=by kernel_rfl
theorem fb_95:Aq Tryz.prog 95=true:=by kernel_rfl
theorem fb_96:Aq Tryz.prog 96=true:=by kernel_rfl
theorem fb_97:Aq Tryz.prog 97=true:=by kernel_rfl
theorem fb_98:Aq Tryz.prog 98=true:=by kernel_rfl
theorem fb_99:Aq Tryz.prog 99=true:=by kernel_rfl
theorem fb_100:Aq Tryz.prog 100=true:=by kernel_rfl
theorem fb_103:Aq Tryz.prog 103=true:=by kernel_rfl
theorem fb_105:Aq Tryz.prog 105=true:=by kernel_rfl
theorem Jn:Aq Tryz.prog 106=true:=by kernel_rfl
theorem fb_108:Aq Tryz.prog 108=true:=by kernel_rfl
theorem fb_109:Aq Tryz.prog 109=true:=by kernel_rfl
theorem fb_112:Aq Tryz.prog 112=true:=by kernel_rfl
theorem fb_114:Aq Tryz.prog 114=true:=by kernel_rfl
theorem fb_115:Aq Tryz.prog 115=true:=by kernel_rfl
theorem fb_116:Aq Tryz.prog 116=true:=by kernel_rfl
theorem fb_117:Aq Tryz.prog 117=true:=by kernel_rfl
theorem fb_118:Aq Tryz.prog 118=true:=by kernel_rfl
theorem fb_119:Aq Tryz.prog 119=true:=by kernel_rfl
theorem fb_120:Aq Tryz.prog 120=true:=by kernel_rfl
theorem fb_121:Aq Tryz.prog 121=true:=by kernel_rfl
theorem fb_122:Aq Tryz.prog 122=true:=by kernel_rfl
theorem fb_124:Aq Tryz.prog 124=true:=by kernel_rfl
theorem fb_125:Aq Tryz.prog 125=true:=by kernel_rfl
theorem fb_126:Aq Tryz.prog 126=true:=by kernel_rfl
theorem fb_127:Aq Tryz.prog 127=true:=by kernel_rfl
theorem fb_128:Aq Tryz.prog 128=true:=by kernel_rfl
theorem fb_129:Aq Tryz.prog 129=true:=by kernel_rfl
theorem fb_130:Aq Tryz.prog 130=true:=by kernel_rfl
theorem fb_131:Aq Tryz.prog 131=true:=by kernel_rfl
theorem fb_132:Aq Tryz.prog 132=true:=by kernel_rfl
theorem fb_133:Aq Tryz.prog 133=true:=by kernel_rfl
theorem fb_134:Aq Tryz.prog 134=true:=by kernel_rfl
theorem fb_135:Aq Tryz.prog 135=true:=by kernel_rfl
theorem fb_136:Aq Tryz.prog 136=true:=by kernel_rfl
theorem fb_138:Aq Tryz.prog 138=true:=by kernel_rfl
theorem fb_139:Aq Tryz.prog 139=true:=by kernel_rfl
theorem fb_140:Aq Tryz.prog 140=true:=by kernel_rfl
theorem fb_141:Aq Tryz.prog 141=true:=by kernel_rfl
theorem Jm:Aq Tryz.prog 142=true:=by kernel_rfl
theorem fb_143:Aq Tryz.prog 143=true:=by kernel_rfl
theorem fb_144:Aq Tryz.prog 144=true:=by kernel_rfl
theorem Gw:Aq Tryz.prog 145=true:=by kernel_rfl
theorem fb_146:Aq Tryz.prog 146=true:=by kernel_rfl
theorem fb_147:Aq Tryz.prog 147=true:=by kernel_rfl
theorem fb_148:Aq Tryz.prog 148=true:=by kernel_rfl
theorem fb_149:Aq Tryz.prog 149=true:=by kernel_rfl
theorem fb_150:Aq Tryz.prog 150=true:=by kernel_rfl
theorem fb_151:Aq Tryz.prog 151=true:=by kernel_rfl
theorem fb_152:Aq Tryz.prog 152=true:=by kernel_rfl
theorem fb_153:Aq Tryz.prog 153=true:=by kernel_rfl
theorem fb_154:Aq Tryz.prog 154=true:=by kernel_rfl
theorem fb_155:Aq Tryz.prog 155=true:=by kernel_rfl
theorem fb_156:Aq Tryz.prog 156=true:=by kernel_rfl
theorem fb_157:Aq Tryz.prog 157=true:=by kernel_rfl
theorem fb_158:Aq Tryz.prog 158=true:=by kernel_rfl
theorem fb_159:Aq Tryz.prog 159=true:=by kernel_rfl
theorem fb_160:Aq Tryz.prog 160=true:=by kernel_rfl
theorem fb_161:Aq Tryz.prog 161=true:=by kernel_rfl
theorem fb_162:Aq Tryz.prog 162=true:=by kernel_rfl
theorem fb_163:Aq Tryz.prog 163=true:=by kernel_rfl
theorem fb_164:Aq Tryz.prog 164=true:=by kernel_rfl
theorem fb_168:Aq Tryz.prog 168=true:=by kernel_rfl
theorem fb_169:Aq Tryz.prog 169=true:=by kernel_rfl
theorem fb_170:Aq Tryz.prog 170=true:=by kernel_rfl
theorem fb_171:Aq Tryz.prog 171=true:=by kernel_rfl
theorem fb_172:Aq Tryz.prog 172=true:=by kernel_rfl
theorem fb_173:Aq Tryz.prog 173=true:=by kernel_rfl
theorem fb_176:Aq Tryz.prog 176=true:=by kernel_rfl
theorem fb_177:Aq Tryz.prog 177=true:=by kernel_rfl
theorem fb_179:Aq Tryz.prog 179=true:=by kernel_rfl
theorem fb_180:Aq Tryz.prog 180=true:=by kernel_rfl
theorem fb_181:Aq Tryz.prog 181=true:=by kernel_rfl
theorem fb_182:Aq Tryz.prog 182=true:=by kernel_rfl
theorem fb_184:Aq Tryz.prog 184=true:=by kernel_rfl
theorem fb_185:Aq Tryz.prog 185=true:=by kernel_rfl
theorem fb_186:Aq Tryz.prog 186=true:=by kernel_rfl
theorem fb_188:Aq Tryz.prog 188=true:=by kernel_rfl
theorem fb_189:Aq Tryz.prog 189=true:=by kernel_rfl
theorem fb_190:Aq Tryz.prog 190=true:=by kernel_rfl
theorem fb_191:Aq Tryz.prog 191=true:=by kernel_rfl
theorem fb_192:Aq Tryz.prog 192=true:=by kernel_rfl
theorem fb_193:Aq Tryz.prog 193=true:=by kernel_rfl
theorem fb_194:Aq Tryz.prog 194=true:=by kernel_rfl
theorem fb_195:Aq Tryz.prog 195=true:=by kernel_rfl
theorem fb_204:Aq Tryz.prog 204=true:=by kernel_rfl
theorem fb_206:Aq Tryz.prog 206=true:=by kernel_rfl
theorem fb_207:Aq Tryz.prog 207=true:=by kernel_rfl
theorem fb_210:Aq Tryz.prog 210=true:=by kernel_rfl
theorem fb_211:Aq Tryz.prog 211=true:=by kernel_rfl
theorem fb_212:Aq Tryz.prog 212=true:=by kernel_rfl
theorem fb_213:Aq Tryz.prog 213=true:=by kernel_rfl
theorem fb_214:Aq Tryz.prog 214=true:=by kernel_rfl
theorem fb_215:Aq Tryz.prog 215=true:=by kernel_rfl
theorem fb_216:Aq Tryz.prog 216=true:=by kernel_rfl
theorem fb_217:Aq Tryz.prog 217=true:=by kernel_rfl
theorem fb_220:Aq Tryz.prog 220=true:=by kernel_rfl
theorem fb_221:Aq Tryz.prog 221=true:=by kernel_rfl
theorem fb_222:Aq Tryz.prog 222=true:=by kernel_rfl
theorem fb_223:Aq Tryz.prog 223=true:=by kernel_rfl
theorem fb_227:Aq Tryz.prog 227=true:=by kernel_rfl
theorem fb_228:Aq Tryz.prog 228=true:=by kernel_rfl
theorem fb_229:Aq Tryz.prog 229=true:=by kernel_rfl
theorem fb_230:Aq Tryz.prog 230=true:=by kernel_rfl
theorem fb_231:Aq Tryz.prog 231=true:=by kernel_rfl
theorem fb_232:Aq Tryz.prog 232=true:=by kernel_rfl
theorem fb_233:Aq Tryz.prog 233=true:=by kernel_rfl
theorem fb_243:Aq Tryz.prog 243=true:=by kernel_rfl
theorem fb_244:Aq Tryz.prog 244=true:=by kernel_rfl
theorem fb_245:Aq Tryz.prog 245=true:=by kernel_rfl
theorem fb_246:Aq Tryz.prog 246=true:=by kernel_rfl
theorem fb_252:Aq Tryz.prog 252=true:=by kernel_rfl
theorem fb_253:Aq Tryz.prog 253=true:=by kernel_rfl
theorem fb_255:Aq Tryz.prog 255=true:=by kernel_rfl
theorem fb_257:Aq Tryz.prog 257=true:=by kernel_rfl
theorem fb_258:Aq Tryz.prog 258=true:=by kernel_rfl
theorem Jl:Aq Tryz.prog 259=true:=by kernel_rfl
theorem fb_260:Aq Tryz.prog 260=true:=by kernel_rfl
theorem fb_267:Aq Tryz.prog 267=true:=by kernel_rfl
theorem fb_268:Aq Tryz.prog 268=true:=by kernel_rfl
theorem fb_269:Aq Tryz.prog 269=true:=by kernel_rfl
theorem fb_270:Aq Tryz.prog 270=true:=by kernel_rfl
theorem fb_271:Aq Tryz.prog 271=true:=by kernel_rfl
theorem fb_284:Aq Tryz.prog 284=true:=by kernel_rfl
theorem fb_286:Aq Tryz.prog 286=true:=by kernel_rfl
theorem fb_290:Aq Tryz.prog 290=true:=by kernel_rfl
theorem el_24:ElTy Tryz.prog 24 45 3 24:=el_of (by kernel_rfl)
theorem el_25:ElTy Tryz.prog 25 234 2 16:=el_of (by kernel_rfl)
theorem el_30:ElTy Tryz.prog 30 49 5 40:=el_of (by kernel_rfl)
theorem el_31:ElTy Tryz.prog 31 3 1 8:=el_of (by kernel_rfl)
theorem el_32:ElTy Tryz.prog 32 91 4 48:=el_of (by kernel_rfl)
theorem el_33:ElTy Tryz.prog 33 87 3 40:=el_of (by kernel_rfl)
theorem Hj:ElTy Tryz.prog 53 5 1 1:=el_of (by kernel_rfl)
theorem el_59:ElTy Tryz.prog 59 61 4 56:=el_of (by kernel_rfl)
theorem el_71:ElTy Tryz.prog 71 67 32 32:=el_of (by kernel_rfl)
theorem zb_3:zeroB Tryz.prog 3=some (.int .i64 0):=by kernel_rfl
theorem zb_4:zeroB Tryz.prog 4=some (.bool false):=by kernel_rfl
theorem eg_23:Tryz.prog.eqGuardType Tryz.prog.depth 23=false:=by kernel_rfl
theorem eg_45:Tryz.prog.eqGuardType Tryz.prog.depth 45=false:=by kernel_rfl
theorem eg_67:Tryz.prog.eqGuardType Tryz.prog.depth 67=false:=by kernel_rfl
theorem eg_184:Tryz.prog.eqGuardType Tryz.prog.depth 184=false:=by kernel_rfl
def z_3:List Seg:=[S1 (.int .i64 0)]
theorem Gd:Jq Tryz.prog 3 z_3:=⟨.int .i64 0,by kernel_rfl,rfl⟩
def z_4:List Seg:=[S1 (.bool false)]
theorem zok_4:Jq Tryz.prog 4 z_4:=⟨.bool false,by kernel_rfl,rfl⟩
def z_5:List Seg:=[S1 (.int .u8 0)]
theorem zok_5:Jq Tryz.prog 5 z_5:=⟨.int .u8 0,by kernel_rfl,rfl⟩
def z_23:List Seg:=[zby 32]
theorem Jb:Jq Tryz.prog 23 z_23:=⟨av z_23,by kernel_rfl,rfl⟩
def z_27:List Seg:=[S1 (.slice none 0 0)]
theorem Ja:Jq Tryz.prog 27 z_27:=⟨av z_27,by kernel_rfl,rfl⟩
def z_29:List Seg:=[S1 (.int .i64 0),S1 (.int .i64 0),zby 32,S1 (.slice none 0 0),Fr 1 [(.slice none 0 0)]]
theorem zok_29:Jq Tryz.prog 29 z_29:=⟨av z_29,by kernel_rfl,rfl⟩
def z_31:List Seg:=[S1 (.slice none 0 0)]
theorem zok_31:Jq Tryz.prog 31 z_31:=⟨.slice none 0 0,by kernel_rfl,rfl⟩
def z_32:List Seg:=[S1 (.slice none 0 0)]
theorem zok_32:Jq Tryz.prog 32 z_32:=⟨.slice none 0 0,by kernel_rfl,rfl⟩
def z_35:List Seg:=[S1 (.int .i64 0),S1 (.int .i64 0)]
theorem zok_35:Jq Tryz.prog 35 z_35:=⟨av z_35,by kernel_rfl,rfl⟩
def z_37:List Seg:=[S1 (.int .i64 0),S1 (.int .i64 0),zby 32,S1 (.int .i64 0),S1 (.slice none 0 0),S1 (.slice none 0 0),S1 (.slice none 0 0),S1 (.slice none 0 0),zby 32,Fr 2 [(.int .i64 0),(.int .i64 0)]]
theorem zok_37:Jq Tryz.prog 37 z_37:=⟨av z_37,by kernel_rfl,rfl⟩
def z_41:List Seg:=[S1 (.int .i64 0)]
theorem zok_41:Jq Tryz.prog 41 z_41:=⟨.int .i64 0,by kernel_rfl,rfl⟩
def z_45:List Seg:=[S1 (.int .i64 0),S1 (.int .i64 0),S1 (.int .i64 0)]
theorem zok_45:Jq Tryz.prog 45 z_45:=⟨av z_45,by kernel_rfl,rfl⟩
def z_49:List Seg:=[S1 (.int .i64 0),S1 (.int .i64 0),S1 (.int .i64 0),S1 (.int .i64 0),S1 (.int .i64 0)]
theorem Fv:Jq Tryz.prog 49 z_49:=⟨av z_49,by kernel_rfl,rfl⟩
def z_53:List Seg:=[S1 (.slice none 0 0)]
theorem zok_53:Jq Tryz.prog 53 z_53:=⟨.slice none 0 0,by kernel_rfl,rfl⟩
def z_59:List Seg:=[S1 (.slice none 0 0)]
theorem zok_59:Jq Tryz.prog 59 z_59:=⟨.slice none 0 0,by kernel_rfl,rfl⟩
def z_61:List Seg:=[S1 (.int .i64 0),S1 (.int .i64 0),S1 (.string ByteArray.empty),S1 (.slice none 0 0)]
theorem Cc:Jq Tryz.prog 61 z_61:=⟨av z_61,by kernel_rfl,rfl⟩
def z_67:List Seg:=[zby 32]
theorem Ge:Jq Tryz.prog 67 z_67:=⟨av z_67,by kernel_rfl,rfl⟩
def z_85:List Seg:=[S1 (.int .i64 0),S1 (.slice none 0 0)]
theorem zok_85:Jq Tryz.prog 85 z_85:=⟨av z_85,by kernel_rfl,rfl⟩
def z_87:List Seg:=[S1 (.int .i64 0),Fr 2 [(.int .i64 0),(.slice none 0 0)]]
theorem zok_87:Jq Tryz.prog 87 z_87:=⟨av z_87,by kernel_rfl,rfl⟩
def z_91:List Seg:=[S1 (.int .i64 0),S1 (.int .i64 0),Fr 2 [(.int .i64 0),(.slice none 0 0)]]
theorem I9:Jq Tryz.prog 91 z_91:=⟨av z_91,by kernel_rfl,rfl⟩
def z_134:List Seg:=[S1 (.slice none 0 0)]
theorem zok_134:Jq Tryz.prog 134 z_134:=⟨av z_134,by kernel_rfl,rfl⟩
def z_169:List Seg:=[S1 (.int .i64 0),S1 .nilFunc]
theorem zok_169:Jq Tryz.prog 169 z_169:=⟨av z_169,by kernel_rfl,rfl⟩
def z_173:List Seg:=[zby 12]
theorem zok_173:Jq Tryz.prog 173 z_173:=⟨av z_173,by kernel_rfl,rfl⟩
def z_184:List Seg:=[zia .i64 3]
theorem zok_184:Jq Tryz.prog 184 z_184:=⟨av z_184,by kernel_rfl,rfl⟩
def z_200:List Seg:=[S1 (.pointer none)]
theorem zok_200:Jq Tryz.prog 200 z_200:=⟨.pointer none,by kernel_rfl,rfl⟩
def z_205:List Seg:=[S1 (.int .u64 0)]
theorem zok_205:Jq Tryz.prog 205 z_205:=⟨.int .u64 0,by kernel_rfl,rfl⟩
def z_207:List Seg:=[S1 (.slice none 0 0)]
theorem zok_207:Jq Tryz.prog 207 z_207:=⟨.slice none 0 0,by kernel_rfl,rfl⟩
def z_224:List Seg:=[Fr 3 [(.slice none 0 0),(.int .i64 0),(.int .i8 0)]]
theorem zok_224:Jq Tryz.prog 224 z_224:=⟨av z_224,by kernel_rfl,rfl⟩
def z_234:List Seg:=[S1 (.int .i64 0),S1 (.int .i64 0)]
theorem zok_234:Jq Tryz.prog 234 z_234:=⟨av z_234,by kernel_rfl,rfl⟩
def z_248:List Seg:=[zby 24]
theorem zok_248:Jq Tryz.prog 248 z_248:=⟨av z_248,by kernel_rfl,rfl⟩
def z_249:List Seg:=[zia .i64 3]
theorem zok_249:Jq Tryz.prog 249 z_249:=⟨av z_249,by kernel_rfl,rfl⟩
def z_252:List Seg:=[S1 (.int .u32 0)]
theorem zok_252:Jq Tryz.prog 252 z_252:=⟨.int .u32 0,by kernel_rfl,rfl⟩
def z_257:List Seg:=[zia .i64 2]
theorem zok_257:Jq Tryz.prog 257 z_257:=⟨av z_257,by kernel_rfl,rfl⟩
def z_293:List Seg:=[zia .u32 8]
theorem zok_293:Jq Tryz.prog 293 z_293:=⟨av z_293,by kernel_rfl,rfl⟩
def z_321:List Seg:=[zia .u32 64]
theorem zok_321:Jq Tryz.prog 321 z_321:=⟨av z_321,by kernel_rfl,rfl⟩
def z_332:List Seg:=[zia .u32 16]
theorem zok_332:Jq Tryz.prog 332 z_332:=⟨av z_332,by kernel_rfl,rfl⟩
def za_67:List Seg:=[S1 (.int .u8 0),S1 (.int .u8 0),S1 (.int .u8 0),S1 (.int .u8 0),S1 (.int .u8 0),S1 (.int .u8 0),S1 (.int .u8 0),S1 (.int .u8 0),S1 (.int .u8 0),S1 (.int .u8 0),S1 (.int .u8 0),S1 (.int .u8 0),S1 (.int .u8 0),S1 (.int .u8 0),S1 (.int .u8 0),S1 (.int .u8 0),S1 (.int .u8 0),S1 (.int .u8 0),S1 (.int .u8 0),S1 (.int .u8 0),S1 (.int .u8 0),S1 (.int .u8 0),S1 (.int .u8 0),S1 (.int .u8 0),S1 (.int .u8 0),S1 (.int .u8 0),S1 (.int .u8 0),S1 (.int .u8 0),S1 (.int .u8 0),S1 (.int .u8 0),S1 (.int .u8 0),S1 (.int .u8 0)]
theorem zaok_67:Jq Tryz.prog 67 za_67:=⟨av za_67,by kernel_rfl,rfl⟩
def za_275:List Seg:=[Fr 1 [.nilFunc],Fr 1 [.nilFunc],Fr 1 [.nilFunc],Fr 1 [.nilFunc]]
theorem zaok_275:Jq Tryz.prog 275 za_275:=⟨av za_275,by kernel_rfl,rfl⟩
def za_317:List Seg:=[S1 (.bool false),S1 (.bool false),S1 (.bool false),S1 (.bool false)]
theorem El:Jq Tryz.prog 317 za_317:=⟨av za_317,by kernel_rfl,rfl⟩
theorem lay_29:LayOK Tryz.prog 29 z_29:=⟨zok_29,_,Tryz.underlying29,by kernel_rfl⟩
theorem lay_37:LayOK Tryz.prog 37 z_37:=⟨zok_37,_,Tryz.underlying37,by kernel_rfl⟩
theorem lay_45:LayOK Tryz.prog 45 z_45:=⟨zok_45,_,Tryz.underlying45,by kernel_rfl⟩
theorem lay_49:LayOK Tryz.prog 49 z_49:=⟨Fv,_,Tryz.underlying49,by kernel_rfl⟩
theorem J7:LayOK Tryz.prog 61 z_61:=⟨Cc,_,Tryz.underlying61,by kernel_rfl⟩
theorem lay_85:LayOK Tryz.prog 85 z_85:=⟨zok_85,_,Tryz.underlying85,by kernel_rfl⟩
theorem lay_87:LayOK Tryz.prog 87 z_87:=⟨zok_87,_,Tryz.underlying87,by kernel_rfl⟩
theorem lay_91:LayOK Tryz.prog 91 z_91:=⟨I9,_,Tryz.underlying91,by kernel_rfl⟩
theorem lay_134:LayOK Tryz.prog 134 z_134:=⟨zok_134,_,Tryz.underlying134,by kernel_rfl⟩
theorem lay_169:LayOK Tryz.prog 169 z_169:=⟨zok_169,_,Tryz.underlying169,by kernel_rfl⟩
theorem lay_234:LayOK Tryz.prog 234 z_234:=⟨zok_234,_,Tryz.underlying234,by kernel_rfl⟩
end Go.Chx
namespace Go.Chx
theorem dg_pos {q yn1 yn0 r u y:Nat} (hy:y=yn1*4294967296+yn0) (hq:q*yn1+r=u):q*y+r*4294967296=u*4294967296+q*yn0:=by
 subst hy; subst hq
 simp only [Nat.mul_add,Nat.add_mul]
 have:q*(yn1*4294967296)=q*yn1*4294967296:=by rw [Nat.mul_assoc]
 omega
theorem dg_more {q yn1 yn0 r u v y:Nat} (hy:y=yn1*4294967296+yn0) (hq:q*yn1+r=u) (hv:v < 4294967296) (hu:u < y)
  (hc:q≥4294967296∨q*yn0 > 4294967296*r+v):(u*4294967296+v) / y < q:=by
 have h0:0 < y:=by omega
 rw [Nat.div_lt_iff_lt_mul h0]
 rcases hc with hc | hc
 ·have h1:(u+1)*4294967296≤y*4294967296:=Nat.mul_le_mul_right _ (by omega)
  have h2:4294967296*y≤q*y:=Nat.mul_le_mul_right _ hc
  omega
 ·have:=dg_pos hy hq
  omega
theorem dg_less {q yn1 yn0 r u v y:Nat} (hy:y=yn1*4294967296+yn0) (hq:q*yn1+r=u) (h0:0 < y) (hc:q*yn0≤4294967296*r+v):q≤(u*4294967296+v) / y:=by
 rw [Nat.le_div_iff_mul_le h0]
 have:=dg_pos hy hq
 omega
theorem dg_first {u yn1 yn0 y:Nat} (hy:y=yn1*4294967296+yn0) (h1:2147483648≤yn1) (h0:yn0 < 4294967296) (hu:u < y):u / yn1≤4294967297:=by
 have:u / yn1 < 4294967298:=by
  rw [Nat.div_lt_iff_lt_mul (by omega)]
  omega
 omega
theorem dg_ge {u v yn1 yn0 y:Nat} (hy:y=yn1*4294967296+yn0) (h1:0 < yn1) (hv:v < 4294967296):(u*4294967296+v) / y≤u / yn1:=by
 rw [Nat.le_div_iff_mul_le h1]
 have hq:(u*4294967296+v) / y*y≤u*4294967296+v:=Nat.div_mul_le_self _ _
 generalize (u*4294967296+v) / y=q at hq
 subst hy
 rw [Nat.mul_add,← Nat.mul_assoc] at hq
 generalize q*yn1=z at hq ⊢
 omega
end Go.Chx
namespace Go.Proofs
open Go.Shelf
def Tryz.lays128_ren:Go.Shelf.Ren:=⟨fun | 128=>183 | n=>n,fun | 51=>252 | 3=>3 | 4=>4 | 46=>177 | 5=>5 | 9=>9 | n=>n,fun | n=>n⟩
theorem Tryz.lays128:Go.Proofs.Lays.n128 Tryz.prog Tryz.lays128_ren:={
 mixed:=by kernel_rfl
 f128:=Tryz.func183.trans (congrArg some (by kernel_rfl))
 t3:=Tryz.underlying3
 a3:=Tryz.isAgg3
 z3:=Tryz.sizeOf3
 v3:=Tryz.zeroValue3
 t4:=Tryz.underlying4
 a4:=Tryz.isAgg4
 z4:=Tryz.sizeOf4
 v4:=Tryz.zeroValue4
 t5:=Tryz.underlying5
 a5:=Tryz.isAgg5
 z5:=Tryz.sizeOf5
 v5:=Tryz.zeroValue5
 t9:=Tryz.underlying9
 a9:=Tryz.isAgg9
 z9:=Tryz.sizeOf9
 v9:=Tryz.zeroValue9
 t46:=Tryz.underlying177
 a46:=Tryz.isAgg177
 z46:=Tryz.sizeOf177
 v46:=Tryz.zeroValue177
 t51:=Tryz.underlying252
 a51:=Tryz.isAgg252
 z51:=Tryz.sizeOf252
 v51:=Tryz.zeroValue252 }
def Tryz.lays125_ren:Go.Shelf.Ren:=⟨fun | 125=>113 | 128=>183 | 129=>184 | n=>n,fun | 46=>177 | 3=>3 | 51=>252 | 53=>205 | 4=>4 | 5=>5 | 9=>9 | n=>n,fun | n=>n⟩
theorem Tryz.lays125:Go.Proofs.Lays.n125 Tryz.prog Tryz.lays125_ren:={
 mixed:=by kernel_rfl
 f125:=Tryz.func113.trans (congrArg some (by kernel_rfl))
 f128:=Tryz.func183.trans (congrArg some (by kernel_rfl))
 f129:=Tryz.func184.trans (congrArg some (by kernel_rfl))
 t3:=Tryz.underlying3
 a3:=Tryz.isAgg3
 z3:=Tryz.sizeOf3
 v3:=Tryz.zeroValue3
 t4:=Tryz.underlying4
 a4:=Tryz.isAgg4
 z4:=Tryz.sizeOf4
 v4:=Tryz.zeroValue4
 t5:=Tryz.underlying5
 a5:=Tryz.isAgg5
 z5:=Tryz.sizeOf5
 v5:=Tryz.zeroValue5
 t9:=Tryz.underlying9
 a9:=Tryz.isAgg9
 z9:=Tryz.sizeOf9
 v9:=Tryz.zeroValue9
 t46:=Tryz.underlying177
 a46:=Tryz.isAgg177
 z46:=Tryz.sizeOf177
 v46:=Tryz.zeroValue177
 t51:=Tryz.underlying252
 a51:=Tryz.isAgg252
 z51:=Tryz.sizeOf252
 v51:=Tryz.zeroValue252
 t53:=Tryz.underlying205
 a53:=Tryz.isAgg205
 z53:=Tryz.sizeOf205
 v53:=Tryz.zeroValue205 }
theorem Tryz.bits_Len (x:Int) (w:World) (h0:0≤x) (h1:x≤18446744073709551615) :
  Calls Tryz.prog 113 #[.int .u64 x] w fun e w'=>e=.returned (.int .i64 (Lib.bitLen x.toNat))∧w'=w:=Any.bits_Len Tryz.lays125 x w h0 h1
def Tryz.lays134_ren:Go.Shelf.Ren:=⟨fun | 134=>284 | 129=>184 | n=>n,fun | 53=>205 | 3=>3 | 4=>4 | 46=>177 | 5=>5 | 9=>9 | n=>n,fun | n=>n⟩
theorem Tryz.lays134:Go.Proofs.Lays.n134 Tryz.prog Tryz.lays134_ren:={
 mixed:=by kernel_rfl
 f129:=Tryz.func184.trans (congrArg some (by kernel_rfl))
 f134:=Tryz.func284.trans (congrArg some (by kernel_rfl))
 t3:=Tryz.underlying3
 a3:=Tryz.isAgg3
 z3:=Tryz.sizeOf3
 v3:=Tryz.zeroValue3
 t4:=Tryz.underlying4
 a4:=Tryz.isAgg4
 z4:=Tryz.sizeOf4
 v4:=Tryz.zeroValue4
 t5:=Tryz.underlying5
 a5:=Tryz.isAgg5
 z5:=Tryz.sizeOf5
 v5:=Tryz.zeroValue5
 t9:=Tryz.underlying9
 a9:=Tryz.isAgg9
 z9:=Tryz.sizeOf9
 v9:=Tryz.zeroValue9
 t46:=Tryz.underlying177
 a46:=Tryz.isAgg177
 z46:=Tryz.sizeOf177
 v46:=Tryz.zeroValue177
 t53:=Tryz.underlying205
 a53:=Tryz.isAgg205
 z53:=Tryz.sizeOf205
 v53:=Tryz.zeroValue205 }
theorem Tryz.bits_LeadingZeros64 (x:Int) (w:World) (h0:0≤x) (h1:x≤18446744073709551615) :
  Calls Tryz.prog 284 #[.int .u64 x] w fun e w'=>e=.returned (.int .i64 (64-(Lib.bitLen x.toNat:Int)))∧w'=w:=Any.bits_LeadingZeros64 Tryz.lays134 x w h0 h1
def Tryz.lays129_ren:Go.Shelf.Ren:=⟨fun | 129=>184 | n=>n,fun | 53=>205 | 3=>3 | 4=>4 | 46=>177 | 5=>5 | 9=>9 | n=>n,fun | n=>n⟩
theorem Tryz.lays129:Go.Proofs.Lays.n129 Tryz.prog Tryz.lays129_ren:={
 mixed:=by kernel_rfl
 f129:=Tryz.func184.trans (congrArg some (by kernel_rfl))
 t3:=Tryz.underlying3
 a3:=Tryz.isAgg3
 z3:=Tryz.sizeOf3
 v3:=Tryz.zeroValue3
 t4:=Tryz.underlying4
 a4:=Tryz.isAgg4
 z4:=Tryz.sizeOf4
 v4:=Tryz.zeroValue4
 t5:=Tryz.underlying5
 a5:=Tryz.isAgg5
 z5:=Tryz.sizeOf5
 v5:=Tryz.zeroValue5
 t9:=Tryz.underlying9
 a9:=Tryz.isAgg9
 z9:=Tryz.sizeOf9
 v9:=Tryz.zeroValue9
 t46:=Tryz.underlying177
 a46:=Tryz.isAgg177
 z46:=Tryz.sizeOf177
 v46:=Tryz.zeroValue177
 t53:=Tryz.underlying205
 a53:=Tryz.isAgg205
 z53:=Tryz.sizeOf205
 v53:=Tryz.zeroValue205 }
theorem Tryz.bits_Len64 (x:Int) (w:World) (h0:0≤x) (h1:x≤18446744073709551615) :
  Calls Tryz.prog 184 #[.int .u64 x] w fun e w'=>e=.returned (.int .i64 (Lib.bitLen x.toNat))∧w'=w:=Any.bits_Len64 Tryz.lays129 x w h0 h1
def Tryz.lays264_ren:Go.Shelf.Ren:=⟨fun | 264=>244 | n=>n,fun | 53=>205 | 46=>177 | n=>n,fun | n=>n⟩
theorem Tryz.lays264:Go.Proofs.Lays.n264 Tryz.prog Tryz.lays264_ren:={
 mixed:=by kernel_rfl
 f264:=Tryz.func244.trans (congrArg some (by kernel_rfl))
 t46:=Tryz.underlying177
 a46:=Tryz.isAgg177
 z46:=Tryz.sizeOf177
 v46:=Tryz.zeroValue177
 t53:=Tryz.underlying205
 a53:=Tryz.isAgg205
 z53:=Tryz.sizeOf205
 v53:=Tryz.zeroValue205 }
open Go.RowKit Go.Lib in
theorem Tryz.bits_Mul64 (x y:Nat) (hx:x < 18446744073709551616) (hy:y < 18446744073709551616) (w:World) :
  Calls Tryz.prog 244 #[.int .u64 x,.int .u64 y] w fun e w'=>e=.returned (.tuple #[.int .u64 ((x*y / 18446744073709551616:Nat):Int),.int .u64 ((x*y % 18446744073709551616:Nat):Int)])∧w'=w:=Any.bits_Mul64 Tryz.lays264 x y hx hy w
def Tryz.laysNm220_ren:Go.Shelf.Ren:=⟨fun | 20=>186 | n=>n,fun | 22=>31 | 3=>3 | 4=>4 | 0=>0 | n=>n,fun | n=>n⟩
theorem Tryz.laysNm220:Go.Proofs.Lays2.n20 Tryz.prog Tryz.laysNm220_ren:={
 mixed:=by kernel_rfl
 f20:=Tryz.func186.trans (congrArg some (by kernel_rfl))
 t0:=Tryz.underlying0
 a0:=Tryz.isAgg0
 z0:=Tryz.sizeOf0
 v0:=Tryz.zeroValue0
 t3:=Tryz.underlying3
 a3:=Tryz.isAgg3
 z3:=Tryz.sizeOf3
 v3:=Tryz.zeroValue3
 t4:=Tryz.underlying4
 a4:=Tryz.isAgg4
 z4:=Tryz.sizeOf4
 v4:=Tryz.zeroValue4
 t22:=Tryz.underlying31
 a22:=Tryz.isAgg31
 z22:=Tryz.sizeOf31
 v22:=Tryz.zeroValue31
 i3:=by kernel_rfl }
open Go.RowKit Go.Lib Go.Sort in
theorem Tryz.slices_Compact_int (blk off cap:Nat) (zs:List Int) (w:World) (hH:Holds (Value.int .i64) w blk off zs.toArray) (hsz:zs.length≤9223372036854775807) (hcap:zs.length≤cap) :
  Calls Tryz.prog 186 #[.slice (some ⟨blk,off,none⟩) zs.length cap] w fun e w'=>e=.returned (.slice (some ⟨blk,off,none⟩) (Lib.compact zs).length cap)∧∃ q,w'=putRow (Value.int .i64) (Sort.ahead w q) blk off (Lib.compact zs++List.replicate (zs.length-(Lib.compact zs).length) 0).toArray:=Any.slices_Compact_int Tryz.laysNm220 blk off cap zs w hH hsz hcap
open Go.RowKit Go.Lib Go.Sort in
theorem Tryz.slices_Compact_int_empty (a:Option Addr) (cap:Nat) (w:World) :
  Calls Tryz.prog 186 #[.slice a 0 cap] w fun e w'=>e=.returned (.slice a 0 cap)∧w'=w:=Any.slices_Compact_int_empty Tryz.laysNm220 a cap w
def Tryz.laysNm237_ren:Go.Shelf.Ren:=⟨fun | 37=>138 | n=>n,fun | 3=>3 | 4=>4 | n=>n,fun | n=>n⟩
theorem Tryz.laysNm237:Go.Proofs.Lays2.n37 Tryz.prog Tryz.laysNm237_ren:={
 mixed:=by kernel_rfl
 f37:=Tryz.func138.trans (congrArg some (by kernel_rfl))
 t3:=Tryz.underlying3
 a3:=Tryz.isAgg3
 z3:=Tryz.sizeOf3
 v3:=Tryz.zeroValue3
 t4:=Tryz.underlying4
 a4:=Tryz.isAgg4
 z4:=Tryz.sizeOf4
 v4:=Tryz.zeroValue4 }
def Tryz.laysNm231_ren:Go.Shelf.Ren:=⟨fun | 31=>278 | 37=>138 | n=>n,fun | 3=>3 | 4=>4 | n=>n,fun | n=>n⟩
theorem Tryz.laysNm231:Go.Proofs.Lays2.n31 Tryz.prog Tryz.laysNm231_ren:={
 mixed:=by kernel_rfl
 f31:=Tryz.func278.trans (congrArg some (by kernel_rfl))
 f37:=Tryz.func138.trans (congrArg some (by kernel_rfl))
 t3:=Tryz.underlying3
 a3:=Tryz.isAgg3
 z3:=Tryz.sizeOf3
 v3:=Tryz.zeroValue3
 t4:=Tryz.underlying4
 a4:=Tryz.isAgg4
 z4:=Tryz.sizeOf4
 v4:=Tryz.zeroValue4 }
end Go.Proofs
namespace Go.Chx
open Go Go.Proofs
set_option maxHeartbeats 1000000
set_option maxRecDepth 4000
theorem mul64_spec (x y:Nat) (hx:x < 18446744073709551616) (hy:y < 18446744073709551616):Ay Tryz.prog 244 [nv x,nv y] [] (fun _=>True)
  (fun _:Unit=>⟨True,.tuple #[nv (x*y / 18446744073709551616),nv (x*y % 18446744073709551616)],[],fun _=>True⟩) :=
 spec_same (Tryz.bits_Mul64 x y hx hy)
theorem lz64_spec (x:Nat) (hx:x < 18446744073709551616):Ay Tryz.prog 284 [nv x] [] (fun _=>True) (fun _:Unit=>⟨True,.int .i64 (64-(Lib.bitLen x:Int)),[],fun _=>True⟩) :=
 spec_same (fun w=>by have:=Tryz.bits_LeadingZeros64 (x:Int) w (by omega) (by omega); simpa using this)
theorem len64_spec (x:Nat) (hx:x < 18446744073709551616):Ay Tryz.prog 184 [nv x] [] (fun _=>True) (fun _:Unit=>⟨True,.int .i64 (Lib.bitLen x),[],fun _=>True⟩) :=
 spec_same (fun w=>by have:=Tryz.bits_Len64 (x:Int) w (by omega) (by omega); simpa using this)
end Go.Chx
namespace Go.Chx
open Go.Lib
theorem bitLen_pos:∀ (n x:Nat),x < 2 ^ n→n≤64→x≠0→1≤bitLen x∧bitLen x≤n∧2 ^ (bitLen x-1)≤x∧x < 2 ^ bitLen x:=by
 intro n
 induction n with
 | zero=>intro x h _ h0; omega
 | succ n ih =>
  intro x hx hn h0
  have hlt:x < 2 ^ 64:=Nat.lt_of_lt_of_le hx (Nat.pow_le_pow_right (by omega) hn)
  have hh:=bitLen_half x h0 hlt
  by_cases h1:x / 2=0
  ·have:x=1:=by omega
   subst this
   have:bitLen 1=1:=by decide
   rw [this]; simp
  ·have:=ih (x / 2) (by rw [Nat.pow_succ] at hx; omega) (by omega) h1
   obtain ⟨a,b,c,d⟩:=this
   rw [hh]
   have e:1+bitLen (x / 2)-1=(bitLen (x / 2)-1)+1:=by omega
   rw [e,Nat.pow_succ,Nat.add_comm 1,Nat.pow_succ]
   omega
theorem norm {y:Nat} (h0:y≠0) (hy:y < 18446744073709551616):∃ s,s=64-bitLen y∧s < 64∧bitLen y=64-s∧y*2 ^ s < 18446744073709551616∧9223372036854775808≤y*2 ^ s:=by
 obtain ⟨a,b,c,d⟩:=bitLen_pos 64 y (by simpa using hy) (by omega) h0
 refine ⟨64-bitLen y,rfl,by omega,by omega,?_,?_⟩
 ·have:y*2 ^ (64-bitLen y) < 2 ^ bitLen y*2 ^ (64-bitLen y):=Nat.mul_lt_mul_of_pos_right d (Nat.two_pow_pos _)
  rw [← Nat.pow_add] at this
  rw [show bitLen y+(64-bitLen y)=64 from by omega] at this
  simpa using this
 ·have:2 ^ (bitLen y-1)*2 ^ (64-bitLen y)≤y*2 ^ (64-bitLen y):=Nat.mul_le_mul_right _ c
  rw [← Nat.pow_add] at this
  rw [show bitLen y-1+(64-bitLen y)=63 from by omega] at this
  simpa using this
theorem split2 (hi lo s:Nat) (hs:s < 64) (hlo:lo < 18446744073709551616) :
  (hi*18446744073709551616+lo)*2 ^ s=(hi*2 ^ s+lo / 2 ^ (64-s))*18446744073709551616+lo*2 ^ s % 18446744073709551616:=by
 have e:(18446744073709551616:Nat)=2 ^ (64-s)*2 ^ s:=by rw [← Nat.pow_add,show 64-s+s=64 from by omega]
 have h1:lo*2 ^ s / 18446744073709551616=lo / 2 ^ (64-s):=by
  rw [e,Nat.mul_div_mul_right _ _ (Nat.two_pow_pos _)]
 have h2:=Nat.div_add_mod (lo*2 ^ s) 18446744073709551616
 rw [h1] at h2
 rw [Nat.add_mul,Nat.add_mul]
 have h3:hi*18446744073709551616*2 ^ s=hi*2 ^ s*18446744073709551616:=by rw [Nat.mul_right_comm]
 omega
theorem or_split (a b i:Nat) (h:b < 2 ^ i):a*2 ^ i ||| b=a*2 ^ i+b:=by
 rw [Nat.mul_comm,Nat.two_pow_add_eq_or_of_lt h]
theorem and_mask (x:Nat):x &&& 4294967295=x % 4294967296:=Nat.and_two_pow_sub_one_eq_mod x 32
theorem two_digits {u L Y un1 un0 Q1 R1 Q0 R0:Nat} (h1:un1=L / 4294967296) (h0:un0=L % 4294967296) (hQ1:Q1=(u*4294967296+un1) / Y) (hR1:R1=(u*4294967296+un1) % Y)
  (hQ0:Q0=(R1*4294967296+un0) / Y) (hR0:R0=(R1*4294967296+un0) % Y) (hY:0 < Y) :
  (u*18446744073709551616+L) / Y=Q1*4294967296+Q0∧(u*18446744073709551616+L) % Y=R0:=by
 have e1:=Nat.div_add_mod (u*4294967296+un1) Y
 have e0:=Nat.div_add_mod (R1*4294967296+un0) Y
 rw [← hQ1,← hR1] at e1
 rw [← hQ0,← hR0] at e0
 have hlt:R0 < Y:=by rw [hR0]; exact Nat.mod_lt _ hY
 have e:u*18446744073709551616+L=Y*(Q1*4294967296+Q0)+R0:=by
  rw [Nat.mul_add,← Nat.mul_assoc]
  generalize Y*Q1=z at *
  omega
 constructor
 ·rw [e,Nat.mul_add_div hY,Nat.div_eq_of_lt hlt,Nat.add_zero]
 ·rw [e,Nat.mul_add_mod,Nat.mod_eq_of_lt hlt]
end Go.Chx
