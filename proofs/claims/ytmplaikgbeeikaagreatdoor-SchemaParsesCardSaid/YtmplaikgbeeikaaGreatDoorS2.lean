/- Parts of the proof, joined: Shelf, Bld, M7, W22, SxL1, M8, SxW1, SxW2, SxW3, SxW4, SxW5, SxW6, SxW7, SxW8, W28, W29, SxW9, SxV1. -/
import Derived.Test.YtmplaikgbeeikaaGreatDoorS1
import Derived.Shelf.Strings.SlTrimAscii
import Derived.Shelf.Strconv.Itoa3
import Derived.Shelf.Strconv.ErrVarAll
import Derived.Shelf.Strconv.ParseUint10At
import Derived.Shelf.Strings.Prefix
import Derived.Shelf.Unicode.Decode
import Derived.Shelf.Unicode.DecodeLast
import Derived.Shelf.Strings.BuilderCap
import Derived.Shelf.Slices.Turned
import Derived.Shelf.Slices.Empties2
import Derived.Shelf.GgClosure.StringsIndexFunc
import Derived.Deep.CutBlock
set_option maxRecDepth 100000
set_option maxHeartbeats 8000000
set_option linter.unusedVariables false
set_option linter.unusedSimpArgs false
set_option linter.unusedSectionVars false
namespace Go.Proofs
open Go.Shelf
def Tryz.lays169_ren:Go.Shelf.Ren:=⟨fun | 169=>107 | n=>n,fun | 70=>139 | 9=>9 | 0=>0 | 72=>141 | 37=>73 | 127=>157 | 3=>3 | 5=>5 | n=>n,fun | n=>n⟩
theorem Tryz.lays169:Go.Proofs.Lays.n169 Tryz.prog Tryz.lays169_ren:={
 mixed:=by kernel_rfl
 f169:=Tryz.func107.trans (congrArg some (by kernel_rfl))
 t0:=Tryz.underlying0
 a0:=Tryz.isAgg0
 z0:=Tryz.sizeOf0
 v0:=Tryz.zeroValue0
 t3:=Tryz.underlying3
 a3:=Tryz.isAgg3
 z3:=Tryz.sizeOf3
 v3:=Tryz.zeroValue3
 t9:=Tryz.underlying9
 a9:=Tryz.isAgg9
 z9:=Tryz.sizeOf9
 v9:=Tryz.zeroValue9
 t37:=Tryz.underlying73
 a37:=Tryz.isAgg73
 z37:=Tryz.sizeOf73
 v37:=Tryz.zeroValue73
 t70:=Tryz.underlying139
 a70:=Tryz.isAgg139
 z70:=Tryz.sizeOf139
 v70:=Tryz.zeroValue139
 t72:=Tryz.underlying141
 a72:=Tryz.isAgg141
 z72:=Tryz.sizeOf141
 v72:=Tryz.zeroValue141
 t127:=Tryz.underlying157
 a127:=Tryz.isAgg157
 z127:=Tryz.sizeOf157
 v127:=Tryz.zeroValue157 }
theorem Tryz.Builder_Extra_169:Builder.Extra Tryz.prog Tryz.lays169_ren:={
 sizeBuilder:=by kernel_rfl
 liesBuilder:=by kernel_rfl
 t5:=Tryz.underlying5
 a5:=Tryz.isAgg5
 z5:=Tryz.sizeOf5
 v5:=Tryz.zeroValue5
 infoByte:=by kernel_rfl
 cellsByte:=by kernel_rfl
 sizeByte:=by kernel_rfl
 neB5:=by decide }
open Go.RowKit in
theorem Tryz.Builder_String_any (B b:Nat) (l:List UInt8) (w:World) (h:Lib.IsBuilder 141 5 B b (Lib.byteCells l) w) (hBw:B<=w.heap.size) :
  Calls Tryz.prog 107 #[.pointer (some ⟨b,0,none⟩)] w fun e w'=>e=.returned (.string ⟨l.toArray⟩)/\Below B w w':=Any.Builder_String_any Tryz.lays169 Tryz.Builder_Extra_169 B b l w h hBw
def Tryz.lays160_ren:Go.Shelf.Ren:=⟨fun | 160=>125 | 232=>158 | 231=>157 | 227=>159 | 234=>161 | 233=>160 | 236=>163 | 235=>162 | 228=>176 | 271=>179 | 151=>178 | 197=>177 | 120=>185 | 152=>184 | 260=>183 | 137=>190 | 119=>191 | 224=>192 | 225=>193 | 217=>199 | 266=>202 | n=>n,fun | 9=>9 | 4=>4 | 3=>3 | 5=>5 | 117=>173 | 116=>172 | 0=>0 | 124=>176 | 21=>21 | 105=>191 | 46=>186 | 119=>205 | 139=>208 | 138=>207 | n=>n,fun | 3=>3 | 4=>4 | n=>n⟩
theorem Tryz.lays160:Go.Proofs.Lays.n160 Tryz.prog Tryz.lays160_ren:={
 mixed:=by kernel_rfl
 f119:=Tryz.func191.trans (congrArg some (by kernel_rfl))
 f120:=Tryz.func185.trans (congrArg some (by kernel_rfl))
 f137:=Tryz.func190.trans (congrArg some (by kernel_rfl))
 f151:=Tryz.func178.trans (congrArg some (by kernel_rfl))
 f152:=Tryz.func184.trans (congrArg some (by kernel_rfl))
 f160:=Tryz.func125.trans (congrArg some (by kernel_rfl))
 f197:=Tryz.func177.trans (congrArg some (by kernel_rfl))
 f217:=Tryz.func199.trans (congrArg some (by kernel_rfl))
 f224:=Tryz.func192.trans (congrArg some (by kernel_rfl))
 f225:=Tryz.func193.trans (congrArg some (by kernel_rfl))
 f227:=Tryz.func159.trans (congrArg some (by kernel_rfl))
 f228:=Tryz.func176.trans (congrArg some (by kernel_rfl))
 f231:=Tryz.func157.trans (congrArg some (by kernel_rfl))
 f232:=Tryz.func158.trans (congrArg some (by kernel_rfl))
 f233:=Tryz.func160.trans (congrArg some (by kernel_rfl))
 f234:=Tryz.func161.trans (congrArg some (by kernel_rfl))
 f235:=Tryz.func162.trans (congrArg some (by kernel_rfl))
 f236:=Tryz.func163.trans (congrArg some (by kernel_rfl))
 f260:=Tryz.func183.trans (congrArg some (by kernel_rfl))
 f266:=Tryz.func202.trans (congrArg some (by kernel_rfl))
 f271:=Tryz.func179.trans (congrArg some (by kernel_rfl))
 t0:=Tryz.underlying0
 a0:=Tryz.isAgg0
 z0:=Tryz.sizeOf0
 v0:=Tryz.zeroValue0
 t3:=Tryz.underlying3
 a3:=Tryz.isAgg3
 z3:=Tryz.sizeOf3
 v3:=Tryz.zeroValue3
 t4:=Tryz.underlying4
 a4:=Tryz.isAgg4
 z4:=Tryz.sizeOf4
 v4:=Tryz.zeroValue4
 t5:=Tryz.underlying5
 a5:=Tryz.isAgg5
 z5:=Tryz.sizeOf5
 v5:=Tryz.zeroValue5
 t9:=Tryz.underlying9
 a9:=Tryz.isAgg9
 z9:=Tryz.sizeOf9
 v9:=Tryz.zeroValue9
 t21:=Tryz.underlying21
 a21:=Tryz.isAgg21
 z21:=Tryz.sizeOf21
 v21:=Tryz.zeroValue21
 t46:=Tryz.underlying186
 a46:=Tryz.isAgg186
 z46:=Tryz.sizeOf186
 v46:=Tryz.zeroValue186
 t105:=Tryz.underlying191
 a105:=Tryz.isAgg191
 z105:=Tryz.sizeOf191
 v105:=Tryz.zeroValue191
 t116:=Tryz.underlying172
 a116:=Tryz.isAgg172
 z116:=Tryz.sizeOf172
 t117:=Tryz.underlying173
 a117:=Tryz.isAgg173
 z117:=Tryz.sizeOf173
 v117:=Tryz.zeroValue173
 t119:=Tryz.underlying205
 a119:=Tryz.isAgg205
 z119:=Tryz.sizeOf205
 t124:=Tryz.underlying176
 a124:=Tryz.isAgg176
 z124:=Tryz.sizeOf176
 v124:=Tryz.zeroValue176
 t138:=Tryz.underlying207
 a138:=Tryz.isAgg207
 z138:=Tryz.sizeOf207
 v138:=Tryz.zeroValue207
 t139:=Tryz.underlying208
 a139:=Tryz.isAgg208
 z139:=Tryz.sizeOf208
 v139:=Tryz.zeroValue208
 g3:=by kernel_rfl
 g4:=by kernel_rfl }
def Tryz.laysM171_ren:Go.Shelf.Ren:=⟨fun | 171=>134 | 243=>167 | 246=>180 | 283=>186 | 284=>187 | 285=>188 | 286=>189 | 129=>195 | 317=>194 | 318=>196 | 319=>197 | 320=>198 | 337=>200 | 338=>201 | n=>n,fun | 3=>3 | 9=>9 | 2=>2 | 4=>4 | 171=>200 | 0=>0 | 53=>183 | 37=>73 | 5=>5 | 173=>203 | 212=>213 | 51=>214 | 20=>20 | 213=>215 | 46=>186 | 232=>219 | 233=>220 | n=>n,fun | 17=>5 | 18=>7 | 19=>8 | n=>n⟩
theorem Tryz.laysM171:Go.Proofs.LaysM.n171 Tryz.prog Tryz.laysM171_ren:={
 mixed:=by kernel_rfl
 f129:=Tryz.func195.trans (congrArg some (by kernel_rfl))
 f171:=Tryz.func134.trans (congrArg some (by kernel_rfl))
 f243:=Tryz.func167.trans (congrArg some (by kernel_rfl))
 f246:=Tryz.func180.trans (congrArg some (by kernel_rfl))
 f283:=Tryz.func186.trans (congrArg some (by kernel_rfl))
 f284:=Tryz.func187.trans (congrArg some (by kernel_rfl))
 f285:=Tryz.func188.trans (congrArg some (by kernel_rfl))
 f286:=Tryz.func189.trans (congrArg some (by kernel_rfl))
 f317:=Tryz.func194.trans (congrArg some (by kernel_rfl))
 f318:=Tryz.func196.trans (congrArg some (by kernel_rfl))
 f319:=Tryz.func197.trans (congrArg some (by kernel_rfl))
 f320:=Tryz.func198.trans (congrArg some (by kernel_rfl))
 f337:=Tryz.func200.trans (congrArg some (by kernel_rfl))
 f338:=Tryz.func201.trans (congrArg some (by kernel_rfl))
 t0:=Tryz.underlying0
 a0:=Tryz.isAgg0
 z0:=Tryz.sizeOf0
 v0:=Tryz.zeroValue0
 t2:=Tryz.underlying2
 a2:=Tryz.isAgg2
 z2:=Tryz.sizeOf2
 v2:=Tryz.zeroValue2
 t3:=Tryz.underlying3
 a3:=Tryz.isAgg3
 z3:=Tryz.sizeOf3
 v3:=Tryz.zeroValue3
 t4:=Tryz.underlying4
 a4:=Tryz.isAgg4
 z4:=Tryz.sizeOf4
 v4:=Tryz.zeroValue4
 t5:=Tryz.underlying5
 a5:=Tryz.isAgg5
 z5:=Tryz.sizeOf5
 v5:=Tryz.zeroValue5
 t9:=Tryz.underlying9
 a9:=Tryz.isAgg9
 z9:=Tryz.sizeOf9
 v9:=Tryz.zeroValue9
 t20:=Tryz.underlying20
 a20:=Tryz.isAgg20
 z20:=Tryz.sizeOf20
 v20:=Tryz.zeroValue20
 t37:=Tryz.underlying73
 a37:=Tryz.isAgg73
 z37:=Tryz.sizeOf73
 v37:=Tryz.zeroValue73
 t46:=Tryz.underlying186
 a46:=Tryz.isAgg186
 z46:=Tryz.sizeOf186
 v46:=Tryz.zeroValue186
 t51:=Tryz.underlying214
 a51:=Tryz.isAgg214
 z51:=Tryz.sizeOf214
 v51:=Tryz.zeroValue214
 t53:=Tryz.underlying183
 a53:=Tryz.isAgg183
 z53:=Tryz.sizeOf183
 v53:=Tryz.zeroValue183
 t171:=Tryz.underlying200
 a171:=Tryz.isAgg200
 z171:=Tryz.sizeOf200
 v171:=Tryz.zeroValue200
 t173:=Tryz.underlying203
 a173:=Tryz.isAgg203
 z173:=Tryz.sizeOf203
 v173:=Tryz.zeroValue203
 t212:=Tryz.underlying213
 a212:=Tryz.isAgg213
 z212:=Tryz.sizeOf213
 v212:=Tryz.zeroValue213
 t213:=Tryz.underlying215
 a213:=Tryz.isAgg215
 z213:=Tryz.sizeOf215
 t232:=Tryz.underlying219
 a232:=Tryz.isAgg219
 z232:=Tryz.sizeOf219
 v232:=Tryz.zeroValue219
 t233:=Tryz.underlying220
 a233:=Tryz.isAgg220
 z233:=Tryz.sizeOf220
 v233:=Tryz.zeroValue220
 g17:=by kernel_rfl
 g18:=by kernel_rfl
 g19:=by kernel_rfl
 i0:=by kernel_rfl
 i2:=by kernel_rfl
 i3:=by kernel_rfl
 i4:=by kernel_rfl
 i5:=by kernel_rfl
 i9:=by kernel_rfl
 i20:=by kernel_rfl
 i37:=by kernel_rfl
 i46:=by kernel_rfl
 i51:=by kernel_rfl
 i53:=by kernel_rfl
 i171:=by kernel_rfl
 i173:=by kernel_rfl
 i212:=by kernel_rfl
 i232:=by kernel_rfl
 i233:=by kernel_rfl
 m17:=by kernel_rfl
 m18:=by kernel_rfl
 m19:=by kernel_rfl }
open Go.RowKit Go.Sort Go.Lib in
theorem Tryz.strconv_Itoa (n : Int) (h0 : -9223372036854775808 ≤ n) (h1 : n ≤ 9223372036854775807) (w : World) (htab : Lib.TabIs Tryz.prog w "internal/strconv.uint64pow10" .u64 Lib.pow10Tab) :
  Calls Tryz.prog 134 #[.int .i64 n] w fun e w'=>e=.returned (.string ⟨(Lib.itoa n).toArray⟩)/\∃ k os,w'=grow (w.drewN k) os:=Any.strconv_Itoa Tryz.laysM171 n h0 h1 w htab
def Tryz.laysC172_ren:Go.Shelf.Ren:=⟨fun | 172=>76 | 244=>122 | 245=>123 | 247=>151 | 279=>152 | 280=>153 | 281=>154 | 282=>155 | 287=>172 | 316=>173 | 171=>134 | 205=>174 | 321=>181 | 322=>182 | 243=>167 | 246=>180 | 283=>186 | 284=>187 | 285=>188 | 286=>189 | 129=>195 | 317=>194 | 318=>196 | 319=>197 | 320=>198 | 337=>200 | 338=>201 | n=>n,fun | 9=>9 | 3=>3 | 75=>124 | 76=>125 | 4=>4 | 5=>5 | 167=>164 | 37=>73 | 0=>0 | 85=>165 | 2=>2 | 168=>167 | 53=>183 | 175=>184 | 46=>186 | 210=>188 | 127=>157 | 145=>198 | 143=>196 | 21=>21 | 171=>200 | 173=>203 | 212=>213 | 51=>214 | 20=>20 | 213=>215 | 232=>219 | 233=>220 | 80=>95 | n=>n,fun | 15=>1 | 16=>2 | 17=>5 | 18=>7 | 19=>8 | n=>n⟩
theorem Tryz.laysC172:Go.Proofs.LaysC.n172 Tryz.prog Tryz.laysC172_ren:={
 mixed:=by kernel_rfl
 f129:=Tryz.func195.trans (congrArg some (by kernel_rfl))
 f171:=Tryz.func134.trans (congrArg some (by kernel_rfl))
 f172:=Tryz.func76.trans (congrArg some (by kernel_rfl))
 f205:=Tryz.func174.trans (congrArg some (by kernel_rfl))
 f243:=Tryz.func167.trans (congrArg some (by kernel_rfl))
 f244:=Tryz.func122.trans (congrArg some (by kernel_rfl))
 f245:=Tryz.func123.trans (congrArg some (by kernel_rfl))
 f246:=Tryz.func180.trans (congrArg some (by kernel_rfl))
 f247:=Tryz.func151.trans (congrArg some (by kernel_rfl))
 f279:=Tryz.func152.trans (congrArg some (by kernel_rfl))
 f280:=Tryz.func153.trans (congrArg some (by kernel_rfl))
 f281:=Tryz.func154.trans (congrArg some (by kernel_rfl))
 f282:=Tryz.func155.trans (congrArg some (by kernel_rfl))
 f283:=Tryz.func186.trans (congrArg some (by kernel_rfl))
 f284:=Tryz.func187.trans (congrArg some (by kernel_rfl))
 f285:=Tryz.func188.trans (congrArg some (by kernel_rfl))
 f286:=Tryz.func189.trans (congrArg some (by kernel_rfl))
 f287:=Tryz.func172.trans (congrArg some (by kernel_rfl))
 f316:=Tryz.func173.trans (congrArg some (by kernel_rfl))
 f317:=Tryz.func194.trans (congrArg some (by kernel_rfl))
 f318:=Tryz.func196.trans (congrArg some (by kernel_rfl))
 f319:=Tryz.func197.trans (congrArg some (by kernel_rfl))
 f320:=Tryz.func198.trans (congrArg some (by kernel_rfl))
 f321:=Tryz.func181.trans (congrArg some (by kernel_rfl))
 f322:=Tryz.func182.trans (congrArg some (by kernel_rfl))
 f337:=Tryz.func200.trans (congrArg some (by kernel_rfl))
 f338:=Tryz.func201.trans (congrArg some (by kernel_rfl))
 t0:=Tryz.underlying0
 a0:=Tryz.isAgg0
 z0:=Tryz.sizeOf0
 v0:=Tryz.zeroValue0
 t2:=Tryz.underlying2
 a2:=Tryz.isAgg2
 z2:=Tryz.sizeOf2
 v2:=Tryz.zeroValue2
 t3:=Tryz.underlying3
 a3:=Tryz.isAgg3
 z3:=Tryz.sizeOf3
 v3:=Tryz.zeroValue3
 t4:=Tryz.underlying4
 a4:=Tryz.isAgg4
 z4:=Tryz.sizeOf4
 v4:=Tryz.zeroValue4
 t5:=Tryz.underlying5
 a5:=Tryz.isAgg5
 z5:=Tryz.sizeOf5
 v5:=Tryz.zeroValue5
 t9:=Tryz.underlying9
 a9:=Tryz.isAgg9
 z9:=Tryz.sizeOf9
 v9:=Tryz.zeroValue9
 t20:=Tryz.underlying20
 a20:=Tryz.isAgg20
 z20:=Tryz.sizeOf20
 v20:=Tryz.zeroValue20
 t21:=Tryz.underlying21
 a21:=Tryz.isAgg21
 z21:=Tryz.sizeOf21
 v21:=Tryz.zeroValue21
 t37:=Tryz.underlying73
 a37:=Tryz.isAgg73
 z37:=Tryz.sizeOf73
 v37:=Tryz.zeroValue73
 t46:=Tryz.underlying186
 a46:=Tryz.isAgg186
 z46:=Tryz.sizeOf186
 v46:=Tryz.zeroValue186
 t51:=Tryz.underlying214
 a51:=Tryz.isAgg214
 z51:=Tryz.sizeOf214
 v51:=Tryz.zeroValue214
 t53:=Tryz.underlying183
 a53:=Tryz.isAgg183
 z53:=Tryz.sizeOf183
 v53:=Tryz.zeroValue183
 t75:=Tryz.underlying124
 a75:=Tryz.isAgg124
 z75:=Tryz.sizeOf124
 v75:=Tryz.zeroValue124
 t76:=Tryz.underlying125
 a76:=Tryz.isAgg125
 z76:=Tryz.sizeOf125
 v76:=Tryz.zeroValue125
 t85:=Tryz.underlying165
 a85:=Tryz.isAgg165
 z85:=Tryz.sizeOf165
 v85:=Tryz.zeroValue165
 t127:=Tryz.underlying157
 a127:=Tryz.isAgg157
 z127:=Tryz.sizeOf157
 v127:=Tryz.zeroValue157
 t143:=Tryz.underlying196
 a143:=Tryz.isAgg196
 z143:=Tryz.sizeOf196
 v143:=Tryz.zeroValue196
 t145:=Tryz.underlying198
 a145:=Tryz.isAgg198
 z145:=Tryz.sizeOf198
 v145:=Tryz.zeroValue198
 t167:=Tryz.underlying164
 a167:=Tryz.isAgg164
 z167:=Tryz.sizeOf164
 v167:=Tryz.zeroValue164
 t168:=Tryz.underlying167
 a168:=Tryz.isAgg167
 z168:=Tryz.sizeOf167
 v168:=Tryz.zeroValue167
 t171:=Tryz.underlying200
 a171:=Tryz.isAgg200
 z171:=Tryz.sizeOf200
 v171:=Tryz.zeroValue200
 t173:=Tryz.underlying203
 a173:=Tryz.isAgg203
 z173:=Tryz.sizeOf203
 v173:=Tryz.zeroValue203
 t175:=Tryz.underlying184
 a175:=Tryz.isAgg184
 z175:=Tryz.sizeOf184
 v175:=Tryz.zeroValue184
 t210:=Tryz.underlying188
 a210:=Tryz.isAgg188
 z210:=Tryz.sizeOf188
 v210:=Tryz.zeroValue188
 t212:=Tryz.underlying213
 a212:=Tryz.isAgg213
 z212:=Tryz.sizeOf213
 v212:=Tryz.zeroValue213
 t213:=Tryz.underlying215
 a213:=Tryz.isAgg215
 z213:=Tryz.sizeOf215
 t232:=Tryz.underlying219
 a232:=Tryz.isAgg219
 z232:=Tryz.sizeOf219
 v232:=Tryz.zeroValue219
 t233:=Tryz.underlying220
 a233:=Tryz.isAgg220
 z233:=Tryz.sizeOf220
 v233:=Tryz.zeroValue220
 g15:=by kernel_rfl
 g16:=by kernel_rfl
 g17:=by kernel_rfl
 g18:=by kernel_rfl
 g19:=by kernel_rfl
 t80:=Tryz.underlying95
 a80:=Tryz.isAgg95
 z80:=Tryz.sizeOf95
 v80:=Tryz.zeroValue95
 i0:=by kernel_rfl
 i2:=by kernel_rfl
 i3:=by kernel_rfl
 i4:=by kernel_rfl
 i5:=by kernel_rfl
 i9:=by kernel_rfl
 i20:=by kernel_rfl
 i21:=by kernel_rfl
 i37:=by kernel_rfl
 i46:=by kernel_rfl
 i51:=by kernel_rfl
 i53:=by kernel_rfl
 i75:=by kernel_rfl
 i76:=by kernel_rfl
 i80:=by kernel_rfl
 i85:=by kernel_rfl
 i127:=by kernel_rfl
 i143:=by kernel_rfl
 i145:=by kernel_rfl
 i167:=by kernel_rfl
 i168:=by kernel_rfl
 i171:=by kernel_rfl
 i173:=by kernel_rfl
 i175:=by kernel_rfl
 i210:=by kernel_rfl
 i212:=by kernel_rfl
 i232:=by kernel_rfl
 i233:=by kernel_rfl
 m15:=by kernel_rfl
 m16:=by kernel_rfl
 m17:=by kernel_rfl
 m18:=by kernel_rfl
 m19:=by kernel_rfl
 c0:=by kernel_rfl
 c2:=by kernel_rfl
 c3:=by kernel_rfl
 c4:=by kernel_rfl
 c5:=by kernel_rfl
 c9:=by kernel_rfl
 c20:=by kernel_rfl
 c21:=by kernel_rfl
 c37:=by kernel_rfl
 c46:=by kernel_rfl
 c51:=by kernel_rfl
 c53:=by kernel_rfl
 c75:=by kernel_rfl
 c76:=by kernel_rfl
 c80:=by kernel_rfl
 c85:=by kernel_rfl
 c127:=by kernel_rfl
 c143:=by kernel_rfl
 c145:=by kernel_rfl
 c167:=by kernel_rfl
 c168:=by kernel_rfl
 c171:=by kernel_rfl
 c173:=by kernel_rfl
 c175:=by kernel_rfl
 c210:=by kernel_rfl
 c212:=by kernel_rfl
 c213:=by kernel_rfl
 c232:=by kernel_rfl
 c233:=by kernel_rfl }
open Go.RowKit in
theorem Tryz.strconv_Atoi_ok (s:ByteArray) (hmax:s.size<=9223372036854775806) (v:Int) (h:Lib.atoiAll s.data.toList=.ok v) (w:World) :
  Calls Tryz.prog 76 #[.string s] w fun e w'=>e=.returned (.tuple #[.int .i64 v,.nilIface])/\(w'=w∨∃ t,w'=Lib.bytesWorld w 5 t):=Any.strconv_Atoi_ok Tryz.laysC172 s hmax v h w
open Go.RowKit in
theorem Tryz.strconv_Atoi_syntax_var (s : ByteArray) (hlim : s.size ≤ 281474976710656) (h : Lib.atoiAll s.data.toList = .«syntax») (tp : TypeId) (p : Value) (w : World) (hvar : w.var? Tryz.prog "strconv.ErrSyntax" = some #[.iface tp p]) :
  Calls Tryz.prog 76 #[.string s] w fun e w'=>∃ N,e=.returned (.tuple #[.int .i64 0,.iface 167 (.pointer (some ⟨N,0,none⟩))])/\w.heap.size<=N/\w'.heap[N]?=some (.cells #[.string ⟨#[65,116,111,105]⟩,.string s,.iface tp p] 188 (0,0))/\Below w.heap.size w w':=Any.strconv_Atoi_syntax_var Tryz.laysC172 s hlim h tp p w hvar
open Go.RowKit in
theorem Tryz.strconv_Atoi_range_var (s : ByteArray) (hlim : s.size ≤ 281474976710656) (h : Lib.atoiAll s.data.toList = .range) (tp : TypeId) (p : Value) (w : World) (hvar : w.var? Tryz.prog "strconv.ErrRange" = some #[.iface tp p]) :
  Calls Tryz.prog 76 #[.string s] w fun e w'=>∃ N,e=.returned (.tuple #[.int .i64 (Lib.atoiSat s.data.toList),.iface 167 (.pointer (some ⟨N,0,none⟩))])/\w.heap.size<=N/\w'.heap[N]?=some (.cells #[.string ⟨#[65,116,111,105]⟩,.string s,.iface tp p] 188 (0,0))/\Below w.heap.size w w':=Any.strconv_Atoi_range_var Tryz.laysC172 s hlim h tp p w hvar
def Tryz.lays101_ren:Go.Shelf.Ren:=⟨fun | 101=>124 | 208=>156 | 206=>175 | n=>n,fun | 9=>9 | 4=>4 | 3=>3 | n=>n,fun | n=>n⟩
theorem Tryz.lays101:Go.Proofs.Lays.n101 Tryz.prog Tryz.lays101_ren:={
 mixed:=by kernel_rfl
 f101:=Tryz.func124.trans (congrArg some (by kernel_rfl))
 f206:=Tryz.func175.trans (congrArg some (by kernel_rfl))
 f208:=Tryz.func156.trans (congrArg some (by kernel_rfl))
 t3:=Tryz.underlying3
 a3:=Tryz.isAgg3
 z3:=Tryz.sizeOf3
 v3:=Tryz.zeroValue3
 t4:=Tryz.underlying4
 a4:=Tryz.isAgg4
 z4:=Tryz.sizeOf4
 v4:=Tryz.zeroValue4
 t9:=Tryz.underlying9
 a9:=Tryz.isAgg9
 z9:=Tryz.sizeOf9
 v9:=Tryz.zeroValue9 }
open Go.RowKit Go.Lib in
theorem Tryz.strings_TrimPrefix (s p:ByteArray) (w:World) :
  Calls Tryz.prog 124 #[.string s,.string p] w fun e w'=>e=.returned (.string ⟨(Lib.trimPrefix s.data.toList p.data.toList).toArray⟩)/\w'=w:=Any.strings_TrimPrefix Tryz.lays101 s p w
def Tryz.lays109_ren:Go.Shelf.Ren:=⟨fun | 109=>126 | n=>n,fun | 31=>33 | 9=>9 | 3=>3 | 0=>0 | 4=>4 | n=>n,fun | n=>n⟩
theorem Tryz.lays109:Go.Proofs.Lays.n109 Tryz.prog Tryz.lays109_ren:={
 mixed:=by kernel_rfl
 f109:=Tryz.func126.trans (congrArg some (by kernel_rfl))
 t0:=Tryz.underlying0
 a0:=Tryz.isAgg0
 z0:=Tryz.sizeOf0
 v0:=Tryz.zeroValue0
 t3:=Tryz.underlying3
 a3:=Tryz.isAgg3
 z3:=Tryz.sizeOf3
 v3:=Tryz.zeroValue3
 t4:=Tryz.underlying4
 a4:=Tryz.isAgg4
 z4:=Tryz.sizeOf4
 v4:=Tryz.zeroValue4
 t9:=Tryz.underlying9
 a9:=Tryz.isAgg9
 z9:=Tryz.sizeOf9
 v9:=Tryz.zeroValue9
 t31:=Tryz.underlying33
 a31:=Tryz.isAgg33
 z31:=Tryz.sizeOf33
 v31:=Tryz.zeroValue33 }
open Go.Lib in
theorem Tryz.slices_Index_string (b off n c:Nat) (zs:List ByteArray) (x:ByteArray) (w:World) (hz:n<=zs.length) (hbig:n<=9223372036854775807) (hc:∀ j,j < zs.length->w.cell? ⟨b,off+j,none⟩=some (.string (zs.getD j ByteArray.empty))) :
  Calls Tryz.prog 126 #[.slice (some ⟨b,off,none⟩) n c,.string x] w fun e w'=>e=.returned (.int .i64 (Lib.idxOfS (zs.take n) x))/\w'=w:=Any.slices_Index_string Tryz.lays109 b off n c zs x w hz hbig hc
def Tryz.lays110_ren:Go.Shelf.Ren:=⟨fun | 110=>82 | 109=>126 | n=>n,fun | 31=>33 | 9=>9 | 4=>4 | 3=>3 | 0=>0 | n=>n,fun | n=>n⟩
theorem Tryz.lays110:Go.Proofs.Lays.n110 Tryz.prog Tryz.lays110_ren:={
 mixed:=by kernel_rfl
 f109:=Tryz.func126.trans (congrArg some (by kernel_rfl))
 f110:=Tryz.func82.trans (congrArg some (by kernel_rfl))
 t0:=Tryz.underlying0
 a0:=Tryz.isAgg0
 z0:=Tryz.sizeOf0
 v0:=Tryz.zeroValue0
 t3:=Tryz.underlying3
 a3:=Tryz.isAgg3
 z3:=Tryz.sizeOf3
 v3:=Tryz.zeroValue3
 t4:=Tryz.underlying4
 a4:=Tryz.isAgg4
 z4:=Tryz.sizeOf4
 v4:=Tryz.zeroValue4
 t9:=Tryz.underlying9
 a9:=Tryz.isAgg9
 z9:=Tryz.sizeOf9
 v9:=Tryz.zeroValue9
 t31:=Tryz.underlying33
 a31:=Tryz.isAgg33
 z31:=Tryz.sizeOf33
 v31:=Tryz.zeroValue33 }
open Go.Lib in
theorem Tryz.slices_Contains_string (b off n c:Nat) (zs:List ByteArray) (x:ByteArray) (w:World) (hz:n<=zs.length) (hbig:n<=9223372036854775807) (hc:∀ j,j < zs.length->w.cell? ⟨b,off+j,none⟩=some (.string (zs.getD j ByteArray.empty))) :
  Calls Tryz.prog 82 #[.slice (some ⟨b,off,none⟩) n c,.string x] w fun e w'=>e=.returned (.bool (Lib.containsS (zs.take n) x))/\w'=w:=Any.slices_Contains_string Tryz.lays110 b off n c zs x w hz hbig hc
def Tryz.lays111_ren:Go.Shelf.Ren:=⟨fun | 111=>121 | n=>n,fun | 28=>22 | 3=>3 | 4=>4 | 0=>0 | n=>n,fun | n=>n⟩
theorem Tryz.lays111:Go.Proofs.Lays.n111 Tryz.prog Tryz.lays111_ren:={
 mixed:=by kernel_rfl
 f111:=Tryz.func121.trans (congrArg some (by kernel_rfl))
 t0:=Tryz.underlying0
 a0:=Tryz.isAgg0
 z0:=Tryz.sizeOf0
 v0:=Tryz.zeroValue0
 t3:=Tryz.underlying3
 a3:=Tryz.isAgg3
 z3:=Tryz.sizeOf3
 v3:=Tryz.zeroValue3
 t4:=Tryz.underlying4
 a4:=Tryz.isAgg4
 z4:=Tryz.sizeOf4
 v4:=Tryz.zeroValue4
 t28:=Tryz.underlying22
 a28:=Tryz.isAgg22
 z28:=Tryz.sizeOf22
 v28:=Tryz.zeroValue22 }
open Go.RowKit Go.Lib in
theorem Tryz.slices_Equal_int (b1 o1 n c b2 o2 m d:Nat) (xs ys:List Int) (w:World) (hx:n<=xs.length) (hy:m<=ys.length) (hbig:n<=9223372036854775807) (hbig2:m<=9223372036854775807) (hc1:∀ j,j < xs.length->w.cell? ⟨b1,o1+j,none⟩=some (.int .i64 (xs.getD j 0))) (hc2:∀ j,j < ys.length->w.cell? ⟨b2,o2+j,none⟩=some (.int .i64 (ys.getD j 0))) :
  Calls Tryz.prog 121 #[.slice (some ⟨b1,o1,none⟩) n c,.slice (some ⟨b2,o2,none⟩) m d] w fun e w'=>e=.returned (.bool (xs.take n == ys.take m))/\∃ q,w'=w.drewN q:=Any.slices_Equal_int Tryz.lays111 b1 o1 n c b2 o2 m d xs ys w hx hy hbig hbig2 hc1 hc2
open Go.RowKit Go.Lib in
theorem Tryz.slices_Equal_int_empty (a1 a2:Option Addr) (c m d:Nat) (w:World) (hbig2:m<=9223372036854775807) :
  Calls Tryz.prog 121 #[.slice a1 0 c,.slice a2 m d] w fun e w'=>e=.returned (.bool (decide (m=0)))/\w'=w:=Any.slices_Equal_int_empty Tryz.lays111 a1 a2 c m d w hbig2
def Tryz.lays193_ren:Go.Shelf.Ren:=⟨fun | 193=>65 | n=>n,fun | 31=>33 | 9=>9 | 4=>4 | 3=>3 | 0=>0 | n=>n,fun | n=>n⟩
theorem Tryz.lays193:Go.Proofs.Lays.n193 Tryz.prog Tryz.lays193_ren:={
 mixed:=by kernel_rfl
 f193:=Tryz.func65.trans (congrArg some (by kernel_rfl))
 t0:=Tryz.underlying0
 a0:=Tryz.isAgg0
 z0:=Tryz.sizeOf0
 v0:=Tryz.zeroValue0
 t3:=Tryz.underlying3
 a3:=Tryz.isAgg3
 z3:=Tryz.sizeOf3
 v3:=Tryz.zeroValue3
 t4:=Tryz.underlying4
 a4:=Tryz.isAgg4
 z4:=Tryz.sizeOf4
 v4:=Tryz.zeroValue4
 t9:=Tryz.underlying9
 a9:=Tryz.isAgg9
 z9:=Tryz.sizeOf9
 v9:=Tryz.zeroValue9
 t31:=Tryz.underlying33
 a31:=Tryz.isAgg33
 z31:=Tryz.sizeOf33
 v31:=Tryz.zeroValue33 }
open Go.RowKit Go.Lib in
theorem Tryz.slices_Equal_string (b1 o1 n c b2 o2 m d:Nat) (xs ys:List ByteArray) (w:World) (hx:n<=xs.length) (hy:m<=ys.length) (hbig:n<=9223372036854775807) (hbig2:m<=9223372036854775807) (hc1:∀ j,j < xs.length->w.cell? ⟨b1,o1+j,none⟩=some (.string (xs.getD j ByteArray.empty))) (hc2:∀ j,j < ys.length->w.cell? ⟨b2,o2+j,none⟩=some (.string (ys.getD j ByteArray.empty))) :
  Calls Tryz.prog 65 #[.slice (some ⟨b1,o1,none⟩) n c,.slice (some ⟨b2,o2,none⟩) m d] w fun e w'=>e=.returned (.bool (decide (xs.take n=ys.take m)))/\∃ q,w'=w.drewN q:=Any.slices_Equal_string Tryz.lays193 b1 o1 n c b2 o2 m d xs ys w hx hy hbig hbig2 hc1 hc2
open Go.RowKit Go.Lib in
theorem Tryz.slices_Equal_string_empty (a1 a2:Option Addr) (c m d:Nat) (w:World) (hbig2:m<=9223372036854775807) :
  Calls Tryz.prog 65 #[.slice a1 0 c,.slice a2 m d] w fun e w'=>e=.returned (.bool (decide (m=0)))/\w'=w:=Any.slices_Equal_string_empty Tryz.lays193 a1 a2 c m d w hbig2
open Go.RowKit Go.Lib in
theorem Tryz.slices_Equal_int_lens (a1 a2:Option Addr) (n c m d:Nat) (w:World) (hnm:n≠m) :
  Calls Tryz.prog 121 #[.slice a1 n c,.slice a2 m d] w fun e w'=>e=.returned (.bool false)/\w'=w:=Any.slices_Equal_int_lens Tryz.lays111 a1 a2 n c m d w hnm
open Go.RowKit Go.Lib in
theorem Tryz.slices_Equal_string_lens (a1 a2:Option Addr) (n c m d:Nat) (w:World) (hnm:n≠m) :
  Calls Tryz.prog 65 #[.slice a1 n c,.slice a2 m d] w fun e w'=>e=.returned (.bool false)/\w'=w:=Any.slices_Equal_string_lens Tryz.lays193 a1 a2 n c m d w hnm
end Go.Proofs
namespace Go.Proofs.YtmplaikgbeeikaaGreatDoor
open Go Go.RowKit
section
theorem append_string_at {P:Program} (w:World) (base:Nat) (t u ty e:TypeId) (i:TypeInfo) (ht:P.underlying t=some (.slice e)) (hu:P.underlying u=some .string) (hi:P.info? e=some i) (hz:i.zero=some (.int .u8 0)) (hsize:i.size=1) (hby:i.bytes=1)
  (v:Value) (n:Nat) (xs:List Value) (hown:w.ownsRow base e 1 v n xs) (s:ByteArray) (h47:n+s.size<=140737488355328) (v':Value) (w':World) (hrun:(Builtin.append_ #[t,u] ty #[v,.string s]).run P w=.ok v' w'):v'.ownBlock=v.ownBlock∨v'.ownBlock=some w.heap.size:=by
 rcases hown.2 with ⟨rfl,rfl⟩ | ⟨g,cap,cur,rfl,hbg,hg,hnc,hcm,hcs,htk⟩
 ·by_cases hs:s.size=0
  ·have hf:=Lib.run_firstCells_string (P:=P) w 1 s
   rw [hs] at hf
   have h2:(Builtin.append_ #[t,u] ty #[.slice none 0 0,.string s]).run P w=.ok (.slice none 0 0) w:=by
    simp [Builtin.append_,run_underlying ht,run_underlying hu,sizeOf,typeInfo,hi,hsize,Builtin.lenOf,hs,hf]
   rw [h2] at hrun
   injection hrun with h3 h4
   left;rw [<-h3]
  ·have h2:=run_append_nil_string (P:=P) w t u ty e i (.int .u8 0) ht hu hi hz s (by omega) (by omega) (by rw [hby];omega)
   rw [h2] at hrun
   injection hrun with h3 h4
   right;rw [<-h3];rfl
 ·by_cases hroom:n+s.size<=cap
  ·have h2:=Lib.run_append_room_string (P:=P) w t u ty e i ht hu hi hsize g n cap cur hg s hroom (by omega)
   rw [h2] at hrun
   injection hrun with h3 h4
   left;rw [<-h3];rfl
  ·have hx:xs.length=n:=by have:=hown.1;omega
   have h2:=Lib.run_append_grow_string (P:=P) w t u ty e i (.int .u8 0) ht hu hi hz ⟨g,0,none⟩ n cap xs (by rw [hsize];omega) (hown.cells (g:=g) rfl) s (by omega) (by omega) (by rw [hby];exact growslice_fits (by omega) (by omega))
   rw [h2] at hrun
   injection hrun with h3 h4
   right;rw [<-h3];rfl
theorem wpList_append_str {P:Program} {ops:Array Oper} {rest:List Oper} {o:Oper} {a:Act} {Q:Exit->Act->World->Prop} (hgd:o.guard=none) (sl x:Operand) (t u:TypeId)
  (ho:o.op=.call { callee:=.builtin .append,args:=#[sl,x],argTypes:=#[t,u] }) (e:TypeId) (i:TypeInfo) (ht:P.underlying t=some (.slice e)) (hu:P.underlying u=some .string) (hi:P.info? e=some i) (hz:i.zero=some (.int .u8 0)) (hsize:i.size=1) (hby:i.bytes=1)
  {w W:World} {G M:List Nat} {bx:List Box} {L:List (List Nat->World->Prop)} {v:Value} {n:Nat} {xs:List Value} (H:HRow w G M bx L e 1 v n xs W) (hs:a.eval sl=v) (s:ByteArray) (hx:a.eval x=.string s) (h47:n+s.size<=140737488355328)
  (h:∀ v' W' M',HRow w G M' bx L e 1 v' (n+s.size) (xs++Lib.strCells s) W'->(∀ g∈M,g∈M')->wpList P ops Q rest (a.put o.dst v') W'):wpList P ops Q (o::rest) a W:=by
 obtain ⟨v',W',hr,h2,h3,_⟩:=Lib.run_append_own_string (P:=P) W w.heap.size t u o.type e i ht hu hi hz hsize hby v n xs H.own s (by unfold maxLen;omega) h47 H.h.bl.size
 have h4:=append_string_at (P:=P) W w.heap.size t u o.type e i ht hu hi hz hsize hby v n xs H.own s h47 v' W' hr
 obtain ⟨M',k1,k2,k3⟩:=H.h.grown H.ok h3 h4 h2
 refine wpList_plain hgd fun K hK=>?_
 unfold Oper.wp execOp
 simp only [ho,resolve,invoke,builtin,Sem.run_bind,Sem.run_pure,Result.andThen_ok,List.map_toArray,List.map_cons,List.map_nil,hs,hx,hr]
 exact hK _ _ (h v' W' M' ⟨k1,k2,h2⟩ k3)
structure Bld (w:World) (G M:List Nat) (bx:List Box) (L:List (List Nat->World->Prop)) (b:Nat) (l:List UInt8) (W:World):Prop where
 it:∃ p v,(p=.pointer none∨p=.pointer (some ⟨b,0,none⟩))/\HRow w G M ((b,141,#[p,v])::bx) L 5 1 v l.length (byteVals l) W
theorem infoBld:(Tryz.prog.info? 141).map (·.size)=some 2:=by kernel_rfl
theorem liesBld:liesAt Tryz.prog Tryz.prog.depth 141 (2 / Tryz.prog.cellsOf 141) 0 141 1=true:=by kernel_rfl
theorem copyCheck_fresh (b:Nat) (v:Value) (w:World) (hb:Blk w b 141 #[.pointer none,v]):Calls Tryz.prog 132 #[.pointer (some ⟨b,0,none⟩)] w fun e w'=>e=.returned (.tuple #[])/\w'=w.setCell ⟨b,0,none⟩ (.pointer (some ⟨b,0,none⟩)):=by
 obtain ⟨j,hj,hjs⟩:=Option.map_eq_some_iff.1 infoBld
 have h0:w.cell? ⟨b,0,none⟩=some (.pointer none):=hb.cell 0
 have hsh:w.shape? b=some (141,2):=by unfold World.shape?;rw [show w.heap[b]?=_ from hb];rfl
 have hfz:=hb.frozen 0
 have HL:=aI liesBld
 clear hb
 go_enter Tryz.func132,Tryz.ntmps132
 go_wp2
 rw [Lib.run_to_unsafe w ⟨b,0,none⟩ Tryz.underlying139 Tryz.underlying177 hj (by rw [hjs];decide) hsh (Nat.zero_lt_succ 1)]
 simp only [Result.andThen]
 rw [Oper.upon_value]
 go_wp2
 rw [run_callFunc_extern Tryz.func166 (by kernel_rfl) (by kernel_rfl) (by kernel_rfl) (e:=Extern.AbiNoEscape.same) (by kernel_rfl)]
 rw [Lib.run_noEscape]
 simp only [Result.andThen]
 rw [Oper.upon_value]
 go_wp2
 rw [Lib.run_from_unsafe w ⟨b,0,none⟩ Tryz.underlying177 Tryz.underlying139 hj hsh HL.out]
 simp only [Result.andThen]
 rw [Oper.upon_value]
 go_wp2
 go_end0
 exact ⟨rfl,rfl⟩
theorem copyCheck_used (b:Nat) (v:Value) (w:World) (hb:Blk w b 141 #[.pointer (some ⟨b,0,none⟩),v]):Calls Tryz.prog 132 #[.pointer (some ⟨b,0,none⟩)] w fun e w'=>e=.returned (.tuple #[])/\w'=w:=by
 obtain ⟨j,hj,_⟩:=Option.map_eq_some_iff.1 infoBld
 have h0:w.cell? ⟨b,0,none⟩=some (.pointer (some ⟨b,0,none⟩)):=hb.cell 0
 clear hb
 go_enter Tryz.func132,Tryz.ntmps132
 go_wp2
 rw [Lib.run_neq_ptr_same w _ Tryz.underlying139 hj]
 go_wp2
 go_end0
 exact ⟨rfl,rfl⟩
theorem copyCheck_any {w W:World} {G M:List Nat} {bx:List Box} {L:List (List Nat->World->Prop)} {b:Nat} {l:List UInt8} (H:Bld w G M bx L b l W):Calls Tryz.prog 132 #[.pointer (some ⟨b,0,none⟩)] W fun e W'=>e=.returned (.tuple #[]) /\
  ∃ v,HRow w G M ((b,141,#[.pointer (some ⟨b,0,none⟩),v])::bx) L 5 1 v l.length (byteVals l) W':=by
 obtain ⟨p,v,hp,h⟩:=H.it
 rcases hp with rfl | rfl
 ·refine (copyCheck_fresh b v W (h.h.box (.head _))).mono ?_
  rintro e W' ⟨rfl,rfl⟩
  exact ⟨rfl,v,h.set_ (bx1:=[]) 0 _⟩
 ·refine (copyCheck_used b v W (h.h.box (.head _))).mono ?_
  rintro e W' ⟨rfl,rfl⟩
  exact ⟨rfl,v,h⟩
def BldP (w:World) (G M:List Nat) (bx:List Box) (L:List (List Nat->World->Prop)) (b:Nat) (l:List UInt8) (r:Value) (e:Ending) (W:World):Prop:=e=.returned r/\∃ M',Bld w G M' bx L b l W/\∀ g∈M,g∈M'
theorem strCells_is (s:ByteArray):Lib.strCells s=byteVals s.data.toList:=rfl
theorem bcells {w:World} {g:Nat} {t:TypeId} {a b:Value} (h:Blk w g t #[a,b]):w.cell? ⟨g,0,none⟩=some a/\w.cell? ⟨g,1,none⟩=some b/\w.frozen? ⟨g,0,none⟩=false/\w.frozen? ⟨g,1,none⟩=false:=⟨h.cell 0,h.cell 1,h.frozen 0,h.frozen 1⟩
theorem writeString_any {w W:World} {G M:List Nat} {bx:List Box} {L:List (List Nat->World->Prop)} {b:Nat} {l:List UInt8} (s:ByteArray) (H:Bld w G M bx L b l W) (h47:l.length+s.size<=140737488355328) :
  Calls Tryz.prog 103 #[.pointer (some ⟨b,0,none⟩),.string s] W (BldP w G M bx L b (l++s.data.toList) (.tuple #[.int .i64 s.size,.nilIface])):=by
 obtain ⟨i0,hi,hz0,hz1,hz2⟩:=info_parts infoU8
 have HII:=aI (show _/\_/\_/\_ from ⟨hi,hz0,hz1,hz2⟩)
 have CC:=aI (copyCheck_any H)
 have HL:=aI (show l.length+s.size=(l++s.data.toList).length by simp)
 have HB:=aI (show byteVals l++Lib.strCells s=byteVals (l++s.data.toList) by rw [strCells_is,<-byteVals_append])
 obtain ⟨n,hn⟩:=aX l.length
 rw [hn] at CC HL h47
 generalize l++s.data.toList=l' at *
 clear H hi hz0 hz1 hz2 hn
 go_enter Tryz.func103,Tryz.ntmps103
 go_wp2_with (first | (go_at_call 132;(with_reducible refine (CC.out).mono ?_);rintro e w1 ⟨rfl,v,hr⟩;have T:=aI hr;obtain ⟨c0,c1,f0,f1⟩:=bcells (T.out.h.box (.head _));clear hr) | (at_builtin;obtain ⟨hi,hz0,hz1,hz2⟩:=HII.out;refine wpList_append_str (by rfl) _ _ 73 9 (by rfl) 5 i0 Tryz.underlying73 Tryz.underlying9 hi hz0 hz1 hz2 T.out (by rfl) s (by rfl) h47 ?_;intro v' w' M' h' hM;obtain ⟨A',c',rfl⟩:=own_form h'.own;rw [HB.out,HL.out] at h';replace T:=aI h';clear h' hi hz0 hz1 hz2 c0 c1 f0 f1;obtain ⟨c0,c1,f0,f1⟩:=bcells (T.out.h.box (.head _));have HM:=aI hM;clear hM))
 go_ret2
 rw [HL.out]
 exact ⟨rfl,_,⟨⟨_,_,.inr rfl,T.out.set_ (bx1:=[]) 1 _⟩⟩,HM.out⟩
theorem writeByte_any {w W:World} {G M:List Nat} {bx:List Box} {L:List (List Nat->World->Prop)} {b:Nat} {l:List UInt8} (c:UInt8) (H:Bld w G M bx L b l W) (h47:l.length+1<=140737488355328) :
  Calls Tryz.prog 133 #[.pointer (some ⟨b,0,none⟩),.int .u8 c.toNat] W (BldP w G M bx L b (l++[c]) .nilIface):=by
 obtain ⟨i0,hi,hz0,hz1,hz2⟩:=info_parts infoU8
 have HII:=aI (show _/\_/\_/\_ from ⟨hi,hz0,hz1,hz2⟩)
 have CC:=aI (copyCheck_any H)
 have HL:=aI (show l.length+1=(l++[c]).length by simp)
 have HB:=aI (byteVals_snoc l c)
 obtain ⟨n,hn⟩:=aX l.length
 rw [hn] at CC HL h47
 generalize l++[c]=l' at *
 clear H hi hz0 hz1 hz2 hn
 go_enter Tryz.func133,Tryz.ntmps133
 go_wp2_with (first | (go_at_call 132;(with_reducible refine (CC.out).mono ?_);rintro e w1 ⟨rfl,v,hr⟩;have T:=aI hr;obtain ⟨c0,c1,f0,f1⟩:=bcells (T.out.h.box (.head _));clear hr) | (at_builtin;obtain ⟨hi,hz0,hz1,hz2⟩:=HII.out;refine wpList_append_row (by rfl) _ _ 73 (by rfl) 5 i0 _ 1 1 Tryz.underlying73 hi hz0 hz1 hz2 rfl (by decide) (T.out.below (aP _ _)) (by rfl) _ _ 1 1 [.int .u8 c.toNat] (by rfl) (reads_blk (Blk.new _ _ _) rfl) (byte_one c) (by unfold maxLen;omega) (by omega) ?_;intro v' w' M' h' hM;obtain ⟨A',c',rfl⟩:=own_form h'.own;rw [HB.out,HL.out] at h';replace T:=aI h';clear h' hi hz0 hz1 hz2 c0 c1 f0 f1;obtain ⟨c0,c1,f0,f1⟩:=bcells (T.out.h.box (.head _));have HM:=aI hM;clear hM))
 go_ret
 rw [HL.out]
 exact ⟨rfl,_,⟨⟨_,_,.inr rfl,T.out.set_ (bx1:=[]) 1 _⟩⟩,HM.out⟩
theorem bldString_any {w W:World} {G M:List Nat} {bx:List Box} {L:List (List Nat->World->Prop)} {b:Nat} {l:List UInt8} (H:Bld w G M bx L b l W) :
  Calls Tryz.prog 107 #[.pointer (some ⟨b,0,none⟩)] W fun e W'=>e=.returned (.string ⟨l.toArray⟩)/\Below w.heap.size W W':=by
 obtain ⟨p,v,hp,h⟩:=H.it
 have hb:=h.h.bs _ (.head _)
 have hAt:Lib.BuilderAt 141 5 w.heap.size b p (byteVals l) W:=⟨hb.2.1,v,hb.2.2,by rw [byteVals_length];exact h.own,fun he=>(h.ok b he).2.2 _ (.head _) rfl⟩
 exact Tryz.Builder_String_any w.heap.size b l W (by rcases hp with rfl | rfl <;> first | exact .inl hAt | exact .inr hAt) h.h.bl.size
theorem Bld.new {w W:World} {G M:List Nat} {bx:List Box} {L:List (List Nat->World->Prop)} (h:Held w G M bx L W):Bld w G (W.heap.size::M) bx L W.heap.size [] (W.alloc (.cells #[.pointer none,.slice none 0 0] 141)) :=
 ⟨⟨_,_,.inl rfl,HRow.start (h.new _ _ rfl)⟩⟩
section
variable {w W W':World} {G M:List Nat} {bx:List Box} {L:List (List Nat->World->Prop)} {b:Nat} {l:List UInt8}
theorem Held.perm {bx':List Box} (h:Held w G M bx L W) (hp:bx.Perm bx'):Held w G M bx' L W:=⟨h.bl,h.mb,h.gm,fun x hx=>h.bs x (hp.mem_iff.2 hx),(hp.map _).nodup_iff.1 h.nd,h.all⟩
theorem HRow.perm {bx':List Box} {e:TypeId} {size n:Nat} {v:Value} {xs:List Value} (h:HRow w G M bx L e size v n xs W) (hp:bx.Perm bx'):HRow w G M bx' L e size v n xs W:=⟨h.h.perm hp,h.ok.sub fun _x hx=>hp.mem_iff.2 hx,h.own⟩
theorem Held.adopt {g:Nat} {t:TypeId} {cs:Array Value} (h:Held w G M bx L W) (hb:Below W.heap.size W W') (hg:W.heap.size<=g) (hB:Blk W' g t cs):Held w G (g::M) ((g,t,cs)::bx) L W':=by
 have h':=h.below hb
 refine ⟨h'.bl,fun k hk=>?_,fun k hk=>.tail _ (h.gm k hk),fun x hx=>?_,?_,fun P hP=>⟨(h.all P hP).1,?_⟩⟩
 ·rcases aL hk with rfl | hk
  ·exact hB.lt
  ·exact h'.mb k hk
 ·rcases aL hx with rfl | hx
  ·exact ⟨.head _,ah h.bl.size hg,hB⟩
  ·exact ⟨.tail _ (h'.bs x hx).1,(h'.bs x hx).2⟩
 ·rw [List.map_cons,List.nodup_cons]
  refine ⟨fun hm=>?_,h.nd⟩
  obtain ⟨x,hx,he⟩:=List.mem_map.1 hm
  have:=(h.bs x hx).2.2.lt
  simp only at he
  omega
 ·refine (h.all P hP).1.1 _ _ _ ((h.all P hP).1.2 M _ _ (h.all P hP).2 fun k hk=>?_) (Chg.of_below hb)
  rcases aL hk with rfl | hk
  ·exact .inr hg
  ·exact .inl hk
theorem HRow.adopt {g:Nat} {t:TypeId} {cs:Array Value} {e:TypeId} {size n:Nat} {v:Value} {xs:List Value} (h:HRow w G M bx L e size v n xs W) (hb:Below W.heap.size W W') (hg:W.heap.size<=g) (hB:Blk W' g t cs):HRow w G (g::M) ((g,t,cs)::bx) L e size v n xs W':=by
 refine ⟨h.h.adopt hb hg hB,fun k hk=>⟨.tail _ (h.ok k hk).1,(h.ok k hk).2.1,fun x hx=>?_⟩,owns_below h.own hb⟩
 rcases aL hx with rfl | hx
 ·intro he
  rcases h.own.2 with ⟨rfl,_⟩ | ⟨g',cap,cur,rfl,_,hh,_⟩
  ·simp [Value.ownBlock] at hk
  ·simp only [Value.ownBlock,Option.some.injEq] at hk
   subst hk
   simp only at he
   rw [Array.getElem?_eq_none (by omega)] at hh;cases hh
 ·exact (h.ok k hk).2.2 x hx
theorem Bld.below (h:Bld w G M bx L b l W) (hb:Below W.heap.size W W'):Bld w G M bx L b l W':=by
 obtain ⟨p,v,hp,h⟩:=h.it
 exact ⟨⟨p,v,hp,h.below hb⟩⟩
theorem Bld.adopt {g:Nat} {t:TypeId} {cs:Array Value} (h:Bld w G M bx L b l W) (hb:Below W.heap.size W W') (hg:W.heap.size<=g) (hB:Blk W' g t cs):Bld w G (g::M) ((g,t,cs)::bx) L b l W':=by
 obtain ⟨p,v,hp,h⟩:=h.it
 exact ⟨⟨p,v,hp,(h.adopt hb hg hB).perm (.swap _ _ _)⟩⟩
theorem Bld.newBox (h:Bld w G M bx L b l W) (cs:Array Value) (t:TypeId) {N:Nat} (hN:W.heap.size=N):Bld w G (N::M) ((N,t,cs)::bx) L b l (W.alloc (.cells cs t)) :=
 h.adopt (aP _ _) (Nat.le_of_eq hN) (by subst hN;exact Blk.new _ _ _)
theorem Bld.box {x:Box} (h:Bld w G M bx L b l W) (hx:x∈bx):Blk W x.1 x.2.1 x.2.2:=by
 obtain ⟨p,v,hp,h⟩:=h.it
 exact h.h.box (.tail _ hx)
theorem Bld.fact {P:List Nat->World->Prop} (h:Bld w G M bx L b l W) (hP:P∈L):P M W:=by
 obtain ⟨p,v,hp,h⟩:=h.it
 exact h.h.fact hP
theorem Bld.bl (h:Bld w G M bx L b l W):Below w.heap.size w W:=by
 obtain ⟨p,v,hp,h⟩:=h.it
 exact h.h.bl
theorem Bld.rest {x:Box} (h:Bld w G M (x::bx) L b l W):Bld w G M bx L b l W:=by
 obtain ⟨p,v,hp,h⟩:=h.it
 exact ⟨⟨p,v,hp,(h.perm (.swap x _ _)).rest rfl⟩⟩
end
end
section
theorem digit_byte (q:Nat):((UInt8.ofNat (48+q % 10)).toNat:Int)=48 + ↑q % 10:=by
 rw [UInt8.toNat_ofNat'];omega
def SlB (b:UInt8) (v:Value) (w:World):Prop:=w.ownsRow 0 5 1 v 1 (byteVals [b])
theorem slB_kept (b:UInt8):Kept (SlB b):=fun _ _ _ h hb=>own_below h hb
theorem itoa_nat (u:Nat):Lib.itoa (u:Int)=Lib.decDigits u:=by unfold Lib.itoa;rw [if_neg (by omega)];simp
theorem itoa_neg (u:Nat) (h:0 < u):Lib.itoa (-(u:Int))=45::Lib.decDigits u:=by unfold Lib.itoa;rw [if_pos (by omega)];simp
theorem sz1 (c:UInt8):(ByteArray.mk #[c]).size=1:=rfl
theorem gPow : Tryz.prog.globalNamed "internal/strconv.uint64pow10" = some 5 := by kernel_rfl
structure TEnv (w:World):Prop where
 tab : Lib.TabIs Tryz.prog w "internal/strconv.uint64pow10" .u64 Lib.pow10Tab
 sz:5 < w.heap.size
theorem TEnv.below {w w':World} {B:Nat} (h:TEnv w) (hb:Below B w w') (hB:5 < B):TEnv w':=by
 refine ⟨?_,by have:=hb.size;have:=h.sz;omega⟩
 have h1:=h.tab
 unfold Lib.TabIs at h1 ⊢
 exact var?_below hb gPow hB h1
theorem below_grow (w:World) (k:Nat) (os:Array Obj):Below w.heap.size w (Go.Sort.grow (w.drewN k) os) :=
 (regrown_of_below (w:=w) (Below.refl _ _)).elim fun _ _=>⟨rfl,rfl,rfl,by simp [Go.Sort.grow,World.drewN],fun i hi=>by simp [Go.Sort.grow,World.drewN,Array.getElem?_append,hi]⟩
theorem itoa_any (n:Int) (w:World) (h:inI n) (ht:TEnv w) :
  Calls Tryz.prog 134 #[.int .i64 n] w fun e w'=>e=.returned (.string ⟨(Lib.itoa n).toArray⟩)/\Below w.heap.size w w' :=
 (Tryz.strconv_Itoa n h.1 h.2 w ht.tab).mono fun e w' ⟨he,k,os,hw⟩=>⟨he,by rw [hw];exact below_grow w k os⟩
theorem strLen (s:ByteArray):s.data.toList.length=s.size:=by simp
theorem av_at {G:List Nat} {w:World} {A:Option Addr} {l:List Sx.Av} (h:SlAt G w A l) (k:Nat) (hk:k < l.length):∃ b o v,A=some ⟨b,o,none⟩/\b∉G/\w.cell? ⟨b,o+k,none⟩=some v/\Mem.rep G w l[k] [v]:=by
 obtain ⟨b,o,us,hA,hg,hr,hc⟩:=h.get k hk
 have hlen:=Mem.len hr
 obtain ⟨v,rfl⟩:∃ v,us=[v]:=by
  cases us with
  | nil=>cases hlen
  | cons v us=>cases us with
   | nil=>exact ⟨v,rfl⟩
   | cons _ _=>cases hlen
 refine ⟨b,o,v,hA,hg,?_,hr⟩
 have:=hc 0 _ rfl
 rw [show k*Mem.sz Sx.Av+0=k from Nat.mul_one k] at this
 exact this
theorem ta_nn (z:Int) (x:TypeId) (w:World):(Instr.typeAssert (.iface 3 (.int .i64 z)) x 3 true).run Tryz.prog w=.ok (.tuple #[.int .i64 z,.bool true]) w:=by kernel_rfl
theorem ta_sn (b:ByteArray) (x:TypeId) (w:World):(Instr.typeAssert (.iface 9 (.string b)) x 3 true).run Tryz.prog w=.ok (.tuple #[.int .i64 0,.bool false]) w:=by kernel_rfl
theorem ta_ss (b:ByteArray) (x:TypeId) (w:World):(Instr.typeAssert (.iface 9 (.string b)) x 9 true).run Tryz.prog w=.ok (.tuple #[.string b,.bool true]) w:=by kernel_rfl
theorem line_any (ws:ByteArray) (l:List Sx.Av) (A:Option Addr) (c:Nat) (w:World) (hl:SlAt [] w A l) (hok:∀ a∈l,a.ok) (hm:l.length<=1000000) (hws:ws.size<=1000) (he:TEnv w) :
  Calls Tryz.prog 104 #[.string ws,.slice A l.length c] w fun e w'=>e=.returned (.string ⟨(Sx.lineT (Sx.bs ws::l.map Sx.Av.t)).toArray⟩)/\Below w.heap.size w w':=by
 rw [<-Sx.lineP_end]
 obtain ⟨n,hn⟩:=aX l.length
 have HENV:=aI he
 have HN:=aI hn;have HO:=aI hok
 have HW:=aI (show (Sx.bs ws).length<=1000 by rw [show (Sx.bs ws).length=ws.size from strLen ws];exact hws)
 have T0:=aI ((held0 w [] (fun _ h=>by cases h)).add (keeps_sl A l) hl)
 rw [hn] at hm ⊢
 clear hl hn hok he
 go_enter Tryz.func104,Tryz.ntmps104
 go_upto_region 2 with fail
 have T:=aI (Bld.new T0.out)
 obtain ⟨Nb,hNb⟩:=aX w.heap.size
 rw [hNb] at T ⊢
 clear hNb T0
 go_wp2_with (go_at_call 103;(with_reducible refine (writeString_any ws T.out (by simp;omega)).mono ?_);rintro e w8 ⟨rfl,M8,hT8,_⟩;replace T:=aI hT8;clear hT8)
 rw [List.nil_append] at T
 go_loopg [14] n (fun r i wr=>∃ (k:Nat) (M:List Nat),k+r=n/\i=.int .i64 k/\Bld w [] M [] [fun M W=>SlAt M W A l] Nb (Sx.lineP (Sx.bs ws) (l.take k)) wr)
 case atStart=>exact ⟨0,_,by omega,rfl,by rw [List.take_zero,Sx.lineP_nil];exact T.out⟩
 case round =>
  obtain ⟨k,M,hk,rfl,hb⟩:=hrel
  obtain ⟨wo,rfl⟩:=aY wr
  replace T:=aI hb
  clear hb
  have HLP:=aI (show (Sx.lineP (Sx.bs ws) (l.take k)).length<=1000+101*k by
   have h1:=Sx.lineP_le (Sx.bs ws) (l:=l.take k) fun a ha=>HO.out a (List.mem_of_mem_take ha)
   have h2:=HW.out
   rw [List.length_take] at h1
   have:min k l.length<=k:=Nat.min_le_left _ _
   omega)
  by_cases hlt:k < n
  ·have hkp:k < l.length:=by rw [HN.out];exact hlt
   have k0:(0:Int)<=(k:Int):=aa _
   have k1:(k:Int) < (n:Int):=by omega
   obtain ⟨b,o,v,rfl,_,c0,hr⟩:=av_at (T.out.fact (.head _)) k hkp
   have HS:=aI (show Sx.lineP (Sx.bs ws) (l.take k)++[32]++(l[k]).t=Sx.lineP (Sx.bs ws) (l.take (k+1)) by rw [take_snoc' l k hkp];exact Sx.lineP_snoc _ _ _)
   have ha:=HO.out _ (List.getElem_mem hkp)
   generalize l[k]=a at hr ha HS
   obtain ⟨acc,hacc⟩:=aX (Sx.lineP (Sx.bs ws) (l.take k))
   rw [hacc] at HLP HS T
   have hal:acc.length<=1000+101*k:=HLP.out
   clear hacc HLP
   have CB:=aI (show Calls Tryz.prog 133 #[.pointer (some ⟨Nb,0,none⟩),.int .u8 32] _ _ from writeByte_any 32 T.out (by omega))
   cases a with
   | n z =>
    obtain ⟨hv,hz⟩:=hr
    injection hv with hv _
    subst hv
    have CD:=aI (fun W (hb:Below w.heap.size w W)=>itoa_any z W hz (HENV.out.below hb HENV.out.sz))
    have hil:=Dc.itoa_len z ha
    obtain ⟨d,hd⟩:∃ d:ByteArray,(⟨(Lib.itoa z).toArray⟩:ByteArray)=d:=⟨_,rfl⟩
    rw [hd] at CD
    have hds:d.size<=11:=by rw [<-hd];exact hil
    have HD:=aI (show d.data.toList=(Sx.Av.n z).t by rw [<-hd];rfl)
    have tn:=ta_nn z
    clear ha hz hil hd
    go_wp2_with (first | (go_at_call 133;(with_reducible refine (CB.out).mono ?_);rintro e w8 ⟨rfl,M8,hT8,_⟩;replace T:=aI hT8;clear hT8 c0) | (go_at_call 134;(with_reducible refine (CD.out _ T.out.bl).mono ?_);rintro e w7 ⟨rfl,hb7⟩;replace T:=aI (T.out.below hb7);clear hb7) | (go_at_call 103;(with_reducible refine (writeString_any d T.out (by rw [aK,List.length_singleton];omega)).mono ?_);rintro e w9 ⟨rfl,M9,hT9,_⟩;replace T:=aI hT9;clear hT9))
    rw [HD.out,HS.out] at T
    go_roundg (gk - 1)
    case measure=>omega
    case rel=>exact ⟨k+1,_,by omega,by go_num,T.out⟩
   | s d =>
    obtain ⟨hv,hz⟩:=hr
    injection hv with hv _
    subst hv
    have hds:d.size<=100:=ha
    have HD:=aI (show d.data.toList=(Sx.Av.s d).t from rfl)
    have tn:=ta_sn d
    have ts:=ta_ss d
    clear ha hz
    go_wp2_with (first | (go_at_call 133;(with_reducible refine (CB.out).mono ?_);rintro e w8 ⟨rfl,M8,hT8,_⟩;replace T:=aI hT8;clear hT8 c0) | (go_at_call 103;(with_reducible refine (writeString_any d T.out (by rw [aK,List.length_singleton];omega)).mono ?_);rintro e w9 ⟨rfl,M9,hT9,_⟩;replace T:=aI hT9;clear hT9))
    rw [HD.out,HS.out] at T
    go_roundg (gk - 1)
    case measure=>omega
    case rel=>exact ⟨k+1,_,by omega,by go_num,T.out⟩
  ·have k1:¬ (k:Int) < (n:Int):=by omega
   rw [List.take_of_length_le (by rw [HN.out];omega)] at T
   rw [List.take_of_length_le (by rw [HN.out];omega)] at HLP
   have hsz:(Sx.lineP (Sx.bs ws) l).length<=1000+101*k:=HLP.out
   have CS:=aI (bldString_any T.out)
   obtain ⟨d,hd⟩:∃ d:ByteArray,(⟨(Sx.lineP (Sx.bs ws) l).toArray⟩:ByteArray)=d:=⟨_,rfl⟩
   rw [hd] at CS
   have hds:d.size+(⟨#[10]⟩:ByteArray).size<=9223372036854775807:=by
    rw [<-hd];show (Sx.lineP (Sx.bs ws) l).toArray.size+1<=_
    rw [List.size_toArray];omega
   have HD:=aI hd
   clear hd hsz
   go_wp2_with (go_at_call 107;(with_reducible refine (CS.out).mono ?_);rintro e w8 ⟨rfl,hb8⟩;have HB:=aI (T.out.bl.trans hb8);clear hb8)
   go_ret
   exact ⟨by rw [<-HD.out,str_eq (a:=_++_) rfl];simp,HB.out⟩
namespace Vm
theorem tw_is (p:UInt8->Bool) (l:List UInt8):∀ (n a e:Nat),e - a=n->a<=e->e<=l.length->(∀ j (hj:j < l.length),a<=j->j < e->p l[j]=true)->(e=l.length∨∃ h:e < l.length,p l[e]=false)->((l.drop a).takeWhile p).length=e - a
 | 0,a,e,hn,hae,he,_,hs=>by
  obtain rfl:a=e:=by omega
  rcases hs with rfl | ⟨h,hp⟩
  ·simp
  ·rw [List.drop_eq_getElem_cons h,List.takeWhile_cons,hp];simp
 | n+1,a,e,hn,hae,he,hall,hs=>by
  have ha:a < l.length:=by omega
  rw [List.drop_eq_getElem_cons ha,List.takeWhile_cons,hall a ha (ag _) (by omega),if_pos rfl,List.length_cons,tw_is p l n (a+1) e (by omega) (by omega) he (fun j hj h1 h2=>hall j hj (by omega) h2) hs]
  omega
theorem skipN_is {l:List UInt8} {a e:Nat} (hae:a<=e) (he:e<=l.length) (h:∀ j (hj:j < l.length),a<=j->j < e->isBlank l[j]=true) (hs:e=l.length∨∃ h:e < l.length,isBlank l[e]=false):skipN l a=e:=by
 unfold skipN;rw [tw_is isBlank l _ a e rfl hae he h hs];omega
theorem wordAt_is {l:List UInt8} {a e:Nat} (hae:a<=e) (he:e<=l.length) (h:∀ j (hj:j < l.length),a<=j->j < e->isTok l[j]=true) (hs:e=l.length∨∃ h:e < l.length,isTok l[e]=false):wordAt l a=(l.drop a).take (e - a):=by
 have h1:=tw_is isTok l _ a e rfl hae he h hs
 unfold wordAt
 rw [<-take_takeWhile,h1]
theorem str_get (s:ByteArray) (k:Nat) (_h:k < s.size) (h':k < s.data.toList.length):s.data.toList[k]=s[k]:=by rw [Array.getElem_toList];rfl
theorem strLn (s:ByteArray):s.data.toList.length=s.size:=by simp
theorem blank_cases (c:UInt8):(isBlank c=true/\((c.toNat:Int) == 32)=true)∨(isBlank c=true/\((c.toNat:Int) == 32)=false/\((c.toNat:Int) == 10)=true)∨(isBlank c=false/\((c.toNat:Int) == 32)=false/\((c.toNat:Int) == 10)=false):=by
 have key:∀ n:UInt8,((c.toNat:Int) == (n.toNat:Int))=(c == n):=by
  intro n
  rw [Bool.eq_iff_iff,beq_iff_eq,beq_iff_eq]
  exact ⟨fun h=>UInt8.toNat_inj.1 (by omega),fun h=>by rw [h]⟩
 have k1:=key 32
 have k2:=key 10
 rw [show ((32:UInt8).toNat:Int)=32 from rfl] at k1
 rw [show ((10:UInt8).toNat:Int)=10 from rfl] at k2
 unfold isBlank
 rw [k1,k2]
 cases c == 32 <;> cases c == 10 <;> simp
end Vm
theorem w_drew (w:World) (n:Nat):Below w.heap.size w (w.drewN n):=⟨rfl,rfl,rfl,ag _,fun _ _=>rfl⟩
theorem parse_digs:∀ (l:List UInt8) (a:Nat),l.all Dc.isDig=true->(a+1)*10 ^ l.length<=1000000000000000000->Lib.parseUint10 a l=.ok (l.foldl (fun a c=>10*a+(c.toNat - 48)) a)
 | [],a,_,_=>rfl
 | c::l,a,h,hb=>by
  rw [List.all_cons,Bool.and_eq_true] at h
  have hc:=h.1
  simp only [Dc.isDig,Bool.and_eq_true,decide_eq_true_eq] at hc
  rw [List.length_cons,Nat.pow_succ] at hb
  have hp:1<=10 ^ l.length:=Nat.pow_pos (by omega)
  have hb2:(a+1)*10*10 ^ l.length<=1000000000000000000:=by rw [Nat.mul_assoc,Nat.mul_comm 10];exact hb
  have ha:(a+1)*10<=1000000000000000000:=ah (Nat.le_mul_of_pos_right _ hp) hb2
  unfold Lib.parseUint10
  rw [if_pos ⟨hc.1,hc.2⟩,if_neg (by omega),if_neg (by omega),List.foldl_cons,Nat.mul_comm a 10]
  refine parse_digs l _ h.2 (ah (Nat.mul_le_mul_right _ ?_) hb2)
  omega
theorem trim_is (w:List UInt8):Lib.trimPrefix w [45]=Vm.digs w:=by
 unfold Lib.trimPrefix Lib.hasPrefix Vm.digs Vm.neg
 cases w with
 | nil=>rfl
 | cons c r =>
  simp only [List.isPrefixOf,Bool.and_true,List.head?_cons]
  have e:((45:UInt8) == c)=(some c == some (45:UInt8)):=by rw [Bool.eq_iff_iff];simp;exact eq_comm
  rw [e]
  by_cases hc:(some c == some (45:UInt8))=true <;> simp [hc]
theorem below_atoi {w w':World} {e:TypeId} (h:w'=w∨∃ t,w'=Lib.bytesWorld w e t):Below w.heap.size w w':=by
 rcases h with rfl | ⟨t,rfl⟩
 ·exact Below.refl _ _
 ·exact Lib.below_freeze (((Below.refl _ _).drew).alloc (ag _) _) (p:=⟨w.heap.size,_,none⟩) (ag _) _
theorem strEq_true (s:ByteArray):(s.toList == s.toList)=true:=by simp
theorem strEq_false {s t:ByteArray} (h:s≠t):(s.toList == t.toList)=false:=by
 rw [beq_eq_false_iff_ne];intro e;apply h
 rw [ByteArray.toList_eq,ByteArray.toList_eq] at e
 obtain ⟨⟨a⟩⟩:=s;obtain ⟨⟨b⟩⟩:=t;simpa using e
theorem within_any (n a b:Int) (w:World):Calls Tryz.prog 52 #[.int .i64 n,.int .i64 a,.int .i64 b] w fun e w'=>e=.returned (.bool (Sx.within n a b))/\w=w':=by
 unfold Sx.within
 go_enter Tryz.func52,Tryz.ntmps52
 obtain ⟨b1,h1⟩:=aX (decide (a<=n))
 obtain ⟨b2,h2⟩:=aX (decide (n<=b))
 rw [h1,h2]
 cases b1 <;> cases b2 <;> (go_wp2;go_ret;exact ⟨rfl,rfl⟩)
theorem rWithin_any (n a b:Int) (w:World):Calls Tryz.prog 95 #[.int .i64 n,.int .i64 a,.int .i64 b] w fun e w'=>e=.returned (.bool (Sx.within n a b))/\w=w':=by
 unfold Sx.within
 go_enter Tryz.func95,Tryz.ntmps95
 obtain ⟨b1,h1⟩:=aX (decide (a<=n))
 obtain ⟨b2,h2⟩:=aX (decide (n<=b))
 rw [h1,h2]
 cases b1 <;> cases b2 <;> (go_wp2;go_ret;exact ⟨rfl,rfl⟩)
theorem span_any (lo hi a b:Int) (w:World):Calls Tryz.prog 111 #[.int .i64 lo,.int .i64 hi,.int .i64 a,.int .i64 b] w fun e w'=>e=.returned (.bool (Sx.span lo hi a b))/\w=w':=by
 unfold Sx.span
 go_enter Tryz.func111,Tryz.ntmps111
 obtain ⟨b1,h1⟩:=aX (decide (a<=lo))
 obtain ⟨b2,h2⟩:=aX (decide (lo<=hi))
 obtain ⟨b3,h3⟩:=aX (decide (hi<=b))
 rw [h1,h2,h3]
 cases b1 <;> cases b2 <;> cases b3 <;> (go_wp2;go_ret;exact ⟨rfl,rfl⟩)
theorem rSpan_any (lo hi a b:Int) (w:World):Calls Tryz.prog 129 #[.int .i64 lo,.int .i64 hi,.int .i64 a,.int .i64 b] w fun e w'=>e=.returned (.bool (Sx.span lo hi a b))/\w=w':=by
 unfold Sx.span
 go_enter Tryz.func129,Tryz.ntmps129
 obtain ⟨b1,h1⟩:=aX (decide (a<=lo))
 obtain ⟨b2,h2⟩:=aX (decide (lo<=hi))
 obtain ⟨b3,h3⟩:=aX (decide (hi<=b))
 rw [h1,h2,h3]
 cases b1 <;> cases b2 <;> cases b3 <;> (go_wp2;go_ret;exact ⟨rfl,rfl⟩)
theorem le_cast (a b:Nat):decide ((a:Int)<=(b:Int))=decide (a<=b):=by simp
theorem letter_any (c:UInt8) (w:World):Calls Tryz.prog 137 #[.int .u8 c.toNat] w fun e w'=>e=.returned (.bool (Sx.letterB c))/\w=w':=by
 unfold Sx.letterB
 go_enter Tryz.func137,Tryz.ntmps137
 obtain ⟨b1,h1⟩:=aX (decide (97<=c.toNat))
 obtain ⟨b2,h2⟩:=aX (decide (c.toNat<=122))
 rw [h1,h2]
 have h1':decide ((97:Int)<=(c.toNat:Int))=b1:=by rw [<-h1];exact le_cast 97 _
 have h2':decide ((c.toNat:Int)<=(122:Int))=b2:=by rw [<-h2];exact le_cast _ 122
 clear h1 h2
 cases b1 <;> cases b2 <;> (go_wp2;go_ret;exact ⟨rfl,rfl⟩)
theorem rLetter_any (c:UInt8) (w:World):Calls Tryz.prog 164 #[.int .u8 c.toNat] w fun e w'=>e=.returned (.bool (Sx.letterB c))/\w=w':=by
 unfold Sx.letterB
 go_enter Tryz.func164,Tryz.ntmps164
 obtain ⟨b1,h1⟩:=aX (decide (97<=c.toNat))
 obtain ⟨b2,h2⟩:=aX (decide (c.toNat<=122))
 rw [h1,h2]
 have h1':decide ((97:Int)<=(c.toNat:Int))=b1:=by rw [<-h1];exact le_cast 97 _
 have h2':decide ((c.toNat:Int)<=(122:Int))=b2:=by rw [<-h2];exact le_cast _ 122
 clear h1 h2
 cases b1 <;> cases b2 <;> (go_wp2;go_ret;exact ⟨rfl,rfl⟩)
theorem isDig_is (c:UInt8):Dc.isDig c=(decide (48<=c.toNat) && decide (c.toNat<=57)):=by unfold Dc.isDig;rfl
theorem digit_any (c:UInt8) (w:World):Calls Tryz.prog 140 #[.int .u8 c.toNat] w fun e w'=>e=.returned (.bool (Dc.isDig c))/\w=w':=by
 rw [isDig_is]
 go_enter Tryz.func140,Tryz.ntmps140
 obtain ⟨b1,h1⟩:=aX (decide (48<=c.toNat))
 obtain ⟨b2,h2⟩:=aX (decide (c.toNat<=57))
 rw [h1,h2]
 have h1':decide ((48:Int)<=(c.toNat:Int))=b1:=by rw [<-h1];exact le_cast 48 _
 have h2':decide ((c.toNat:Int)<=(57:Int))=b2:=by rw [<-h2];exact le_cast _ 57
 clear h1 h2
 cases b1 <;> cases b2 <;> (go_wp2;go_ret;exact ⟨rfl,rfl⟩)
theorem rDigit_any (c:UInt8) (w:World):Calls Tryz.prog 127 #[.int .u8 c.toNat] w fun e w'=>e=.returned (.bool (Dc.isDig c))/\w=w':=by
 rw [isDig_is]
 go_enter Tryz.func127,Tryz.ntmps127
 obtain ⟨b1,h1⟩:=aX (decide (48<=c.toNat))
 obtain ⟨b2,h2⟩:=aX (decide (c.toNat<=57))
 rw [h1,h2]
 have h1':decide ((48:Int)<=(c.toNat:Int))=b1:=by rw [<-h1];exact le_cast 48 _
 have h2':decide ((c.toNat:Int)<=(57:Int))=b2:=by rw [<-h2];exact le_cast _ 57
 clear h1 h2
 cases b1 <;> cases b2 <;> (go_wp2;go_ret;exact ⟨rfl,rfl⟩)
theorem name1_any (c:UInt8) (w:World):Calls Tryz.prog 139 #[.int .u8 c.toNat] w fun e w'=>e=.returned (.bool (!Sx.alnumB c))/\w=w':=by
 unfold Sx.alnumB
 have CL:=aI (letter_any c)
 have CD:=aI (digit_any c)
 generalize Sx.letterB c=b1 at *
 generalize Dc.isDig c=b2 at *
 generalize c.toNat=n at *
 go_enter Tryz.func139,Tryz.ntmps139
 cases b1 <;> cases b2 <;> (go_wp2_with (first | (go_at_call 137;(with_reducible refine aS (CL.out _) ?_)) | (go_at_call 140;(with_reducible refine aS (CD.out _) ?_)));go_ret;exact ⟨rfl,rfl⟩)
def PredP (r:Bool) (W:World) (e:Ending) (W':World):Prop:=∃ i:Int,e=.returned (.int .i64 i)/\decide (0<=i)=r/\Below W.heap.size W W'
def BoolP (r:Bool) (W:World) (e:Ending) (W':World):Prop:=e=.returned (.bool r)/\Below W.heap.size W W'
theorem all_bad {α:Type} {b:α->Bool} {l:List α} {k:Nat} (hk:k < l.length) (h:b l[k]=false):l.all b=false:=by
 cases hb:l.all b with
 | false=>rfl
 | true=>rw [List.all_eq_true.1 hb _ (List.getElem_mem hk)] at h;cases h
theorem all_good {α:Type} {b:α->Bool} {l:List α} (h:∀ k (hk:k < l.length),b l[k]=true):l.all b=true :=
 List.all_eq_true.2 fun y hy=>by obtain ⟨k,hk,rfl⟩:=List.getElem_of_mem hy;exact h k hk
theorem idxB_any (l:List UInt8) (A:Option Addr) (c:Nat) (W:World) (hs:SlAt [] W A l) (hm:l.length<=9223372036854775807) :
  Calls Tryz.prog 168 #[.slice A l.length c,.func (.func 139) #[] #[]] W (PredP (!l.all Sx.alnumB) W):=by
 obtain ⟨n,hn⟩:=aX l.length
 have HS:=aI hs
 have HN:=aI hn
 rw [hn]
 rw [hn] at hm
 have HV:=aI name1_any
 clear hs hn
 go_enter Tryz.func168,Tryz.ntmps168
 go_wp2_with fail
 go_loopg [8] n (fun r i wr=>∃ k:Nat,k+r=n/\i=.int .i64 k/\Below W.heap.size W wr/\∀ j (hj:j < l.length),j < k->Sx.alnumB l[j]=true)
 case atStart=>exact ⟨0,by omega,rfl,Below.refl _ _,fun _ _ h=>by omega⟩
 case round =>
  obtain ⟨k,hk,rfl,hb,hall⟩:=hrel
  obtain ⟨wo,rfl⟩:=aY wr
  have HB:=aI hb
  have HA:=aI hall
  clear hb hall
  by_cases hlt:k < n
  ·have hkp:k < l.length:=by rw [HN.out];exact hlt
   have k0:(0:Int)<=(k:Int):=aa _
   have k1:(k:Int) < (n:Int):=by omega
   obtain ⟨b,o,rfl,_,c0⟩:=byte_at (HS.out.keep (Chg.of_below HB.out)) k hkp
   have cv:=HV.out l[k]
   obtain ⟨bb,hbb⟩:=aX (Sx.alnumB l[k])
   rw [hbb] at cv
   have CV:=aI cv
   have HBB:=aI hbb
   generalize l[k].toNat=x0 at *
   clear cv hbb
   cases bb
   ·have HR:=aI (all_bad (b:=Sx.alnumB) hkp HBB.out)
    go_wp2_with (go_at_call 139;(with_reducible refine aS (CV.out _) ?_))
    go_ret
    exact ⟨_,rfl,by rw [HR.out];simp,HB.out⟩
   ·go_wp2_with (go_at_call 139;(with_reducible refine aS (CV.out _) ?_))
    go_roundg (gk - 1)
    case measure=>omega
    case rel =>
     refine ⟨k+1,by omega,by go_num,HB.out,fun q hq hlt=>?_⟩
     rcases aj q k with h' | h'
     ·exact HA.out q hq h'
     ·obtain rfl:q=k:=by omega
      exact HBB.out
  ·have HR:=aI (all_good (b:=Sx.alnumB) fun q hq=>HA.out q hq (by rw [HN.out] at hq;omega))
   have k1:¬ (k:Int) < (n:Int):=by omega
   go_wp2_with fail
   go_ret
   exact ⟨_,rfl,by rw [HR.out];rfl,HB.out⟩
theorem conB_any (l:List UInt8) (A:Option Addr) (c:Nat) (W:World) (hs:SlAt [] W A l) (hm:l.length<=9223372036854775807) :
  Calls Tryz.prog 138 #[.slice A l.length c,.func (.func 139) #[] #[]] W (BoolP (!l.all Sx.alnumB) W):=by
 have CI:=aI (idxB_any l A c W hs hm)
 obtain ⟨n,hn⟩:=aX l.length
 rw [hn] at CI ⊢
 clear hs hm hn
 generalize Value.func (.func 139) #[] #[]=F at *
 go_enter Tryz.func138,Tryz.ntmps138
 go_wp2_with (go_at_call 168;(with_reducible refine (CI.out).mono ?_);rintro e w2 ⟨r,rfl,hr,hb2⟩;have HB:=aI hb2;have HR:=aI hr;clear hb2 hr)
 go_ret
 exact ⟨by rw [<-HR.out];rfl,HB.out⟩
theorem nm_is (s:ByteArray):Sx.nm s=((decide (1<=s.size) && decide (s.size<=12)) && (Sx.letterB (s.data.toList.headD 0) && s.data.toList.all Sx.alnumB)):=by
 unfold Sx.nm Sx.nameB
 rw [Vm.strLn]
 cases decide (1<=s.size) <;> cases decide (s.size<=12) <;> simp
theorem within_nat (n:Nat):Sx.within (n:Int) 1 12=(decide (1<=n) && decide (n<=12)):=by
 unfold Sx.within
 rw [show decide ((1:Int)<=(n:Int))=decide (1<=n) from le_cast 1 n,show decide ((n:Int)<=12)=decide (n<=12) from le_cast n 12]
theorem isName_any (s:ByteArray) (w:World) (hs:s.size<=9223372036854775807):Calls Tryz.prog 110 #[.string s] w (BoolP (Sx.nm s) w):=by
 rw [nm_is,<-within_nat]
 have HW:=aI within_any
 have HL:=aI letter_any
 have HCon:=aI conB_any
 have HTS:=aI hs
 clear hs
 obtain ⟨bw,hbw⟩:=aX (Sx.within (s.size:Int) 1 12)
 rw [hbw]
 have cw:=HW.out (s.size:Int) 1 12
 rw [hbw] at cw
 have CW:=aI cw
 clear cw
 cases bw
 ·clear hbw
  go_enter Tryz.func110,Tryz.ntmps110
  go_wp2_with (go_at_call 52;(with_reducible refine aS (CW.out _) ?_))
  go_ret
  exact ⟨rfl,Below.refl _ _⟩
 ·have h1:1<=s.size:=by
   rw [within_nat] at hbw
   have:=(Bool.and_eq_true_iff.1 hbw).1
   exact of_decide_eq_true this
  have hne:0 < s.data.toList.length:=by rw [Vm.strLn];exact h1
  have h0:s.data.toList.headD 0=(s[0]'h1):=by
   rw [<-Vm.str_get s 0 h1 hne]
   rw [List.headD_eq_head?_getD,List.head?_eq_getElem?,List.getElem?_eq_getElem hne]
   rfl
  rw [h0]
  have cl:=HL.out (s[0]'h1)
  obtain ⟨bl,hbl⟩:=aX (Sx.letterB (s[0]'h1))
  rw [hbl] at cl ⊢
  have CL:=aI cl
  have h1':(0:Int) < (s.size:Int):=by omega
  clear cl hbl hbw h0 hne
  cases bl
  ·go_enter Tryz.func110,Tryz.ntmps110
   go_wp2_with (first | (go_at_call 52;(with_reducible refine aS (CW.out _) ?_)) | (go_at_call 137;(with_reducible refine aS (CL.out _) ?_)))
   go_ret
   exact ⟨rfl,Below.refl _ _⟩
  ·have hcv:=run_bytes_of_string (P:=Tryz.prog) w 9 73 5 s Tryz.underlying9 Tryz.underlying73 Tryz.underlying5
   obtain ⟨cap,hcap⟩:=aX (grownCap w s.size 0 5)
   rw [hcap] at hcv
   obtain ⟨W4,hW4⟩:=aX ((w.alloc (.cells (bytesRow s cap) 5 ((bytesRow s cap).size,(bytesRow s cap).size+1))).drew)
   have hB4:Below w.heap.size w W4:=by
    rw [<-hW4]
    exact (aP _ _).trans ⟨rfl,rfl,rfl,ag _,fun _ _=>rfl⟩
   have hs4:SlAt [] W4 (some ⟨w.heap.size,0,none⟩) s.data.toList:=by
    refine SlAt.of_cells (flat_bytes _) (by rw [<-hW4];show w.heap.size < (w.heap.push _).size;rw [Array.size_push];omega) (List.not_mem_nil) fun j u hu=>?_
    unfold byteVals at hu
    rw [List.getElem?_map] at hu
    obtain ⟨hj,hju⟩:∃ hj:j < s.data.size,u=.int .u8 (s.data[j].toNat:Int):=by
     rcases aj j s.data.size with hj | hj
     ·refine ⟨hj,?_⟩
      rw [List.getElem?_eq_getElem (by simpa using hj)] at hu
      simpa using hu.symm
     ·rw [List.getElem?_eq_none (by simpa using hj)] at hu;cases hu
    rw [hju,<-hW4]
    exact (cell_of_row _ w.heap.size j _ 5 _ (heap_alloc_new w _)).trans (bytesRow_at s cap j hj)
   have cc:=HCon.out s.data.toList (some ⟨w.heap.size,0,none⟩) cap W4 hs4 (by rw [Vm.strLn];exact HTS.out)
   rw [Vm.strLn] at cc
   obtain ⟨r,hr⟩:=aX (s.data.toList.all Sx.alnumB)
   rw [hr] at cc ⊢
   clear hr
   have CC:=aI cc
   have HB4:=aI hB4
   have HW4:=aI hW4
   clear cc hs4 hB4 hW4 hcap
   go_enter Tryz.func110,Tryz.ntmps110
   go_wp2_with (first | (go_at_call 52;(with_reducible refine aS (CW.out _) ?_)) | (go_at_call 137;(with_reducible refine aS (CL.out _) ?_)) | (go_at_call 138;rw [HW4.out];(with_reducible refine (CC.out).mono ?_);rintro e w2 ⟨rfl,hb2⟩;have HB5:=aI (HB4.out.trans (hb2.mono HB4.out.size));clear hb2))
   go_ret
   exact ⟨by cases r <;> rfl,HB5.out⟩
def rtS:Value:=.func (.func 110) #[] #[]
def oneS (g:Nat):Value:=.func (.func 147) #[] #[.pointer (some ⟨g,0,none⟩)]
theorem oneS_any (x:ByteArray) (us:List Value) (g:Nat) (w:World) (hr:Mem.rep [] w x us) (hp:True) (hg:w.cell? ⟨g,0,none⟩=some rtS) :
  Calls Tryz.prog 147 #[us.headD .nilFunc,.pointer (some ⟨g,0,none⟩)] w (BoolP (!Sx.nm x) w):=by
 obtain ⟨rfl,hsz⟩:=hr
 have hr0:(True:Prop):=trivial
 show Calls Tryz.prog 147 #[.string x,.pointer (some ⟨g,0,none⟩)] w (BoolP (!Sx.nm x) w)
 have hB1:=Below.refl w.heap.size w
 have hg1:=hg
 have hr9:=hr0
 have HC:=aI (isName_any x w hsz)
 obtain ⟨r,hrr⟩:=aX (Sx.nm x)
 rw [hrr] at HC ⊢
 have HB1:=aI hB1
 unfold rtS at hg1
 clear hrr hr0 hr9 hp hg hB1
 go_enter Tryz.func147,Tryz.ntmps147
 go_wp2_with (go_at_call 110;(with_reducible refine (HC.out).mono ?_);rintro e w2 ⟨rfl,hb2⟩;have HB:=aI (HB1.out.trans (hb2.mono HB1.out.size));clear hb2)
 go_ret
 exact ⟨by cases r <;> rfl,HB.out⟩
theorem idxS_any (l:List (ByteArray)) (A:Option Addr) (c g:Nat) (W:World) (hs:SlAt [] W A l) (hm:l.length<=9223372036854775807) (hp:∀ x∈l,True) (hg:W.cell? ⟨g,0,none⟩=some rtS) :
  Calls Tryz.prog 170 #[.slice A l.length c,oneS g] W (PredP (!l.all Sx.nm) W):=by
 obtain ⟨n,hn⟩:=aX l.length
 have HS:=aI hs
 have HN:=aI hn
 have HP:=aI hp
 have HG:=aI hg
 rw [hn]
 rw [hn] at hm
 have HV:=aI oneS_any
 unfold oneS
 clear hs hn hp hg
 go_enter Tryz.func170,Tryz.ntmps170
 go_wp2_with fail
 go_loopg [8] n (fun r i wr=>∃ k:Nat,k+r=n/\i=.int .i64 k/\Below W.heap.size W wr/\∀ j (hj:j < l.length),j < k->Sx.nm l[j]=true)
 case atStart=>exact ⟨0,by omega,rfl,Below.refl _ _,fun _ _ h=>by omega⟩
 case round =>
  obtain ⟨k,hk,rfl,hb,hall⟩:=hrel
  obtain ⟨wo,rfl⟩:=aY wr
  have HB:=aI hb
  have HA:=aI hall
  clear hb hall
  by_cases hlt:k < n
  ·have hkp:k < l.length:=by rw [HN.out];exact hlt
   have k0:(0:Int)<=(k:Int):=aa _
   have k1:(k:Int) < (n:Int):=by omega
   obtain ⟨b,o,us,rfl,_,hr,hc⟩:=(HS.out.keep (Chg.of_below HB.out)).get k hkp
   have cv:=HV.out l[k] us g wo hr (HP.out _ (List.getElem_mem hkp)) ((HB.out.cell (World.block_lt_of_cell? _ _ HG.out)).trans HG.out)
   obtain ⟨x,hx⟩:=aX (l[k])
   rw [hx] at cv hr
   obtain ⟨rfl,hsz⟩:=hr
   have hr0:(True:Prop):=trivial
   change Calls Tryz.prog 147 #[.string x,.pointer (some ⟨g,0,none⟩)] wo _ at cv
   have c0:wo.cell? ⟨b,o+k,none⟩=some (.string x):=by have:=hc 0 _ rfl;rw [show k*Mem.sz (ByteArray)+0=k from Nat.mul_one k] at this;exact this
   obtain ⟨bb,hbb⟩:=aX (Sx.nm x)
   rw [hbb] at cv
   have CV:=aI cv
   have HX:=aI hx
   have HBB:=aI hbb
   clear cv hbb hr0 hc hx
   cases bb
   ·have HR:=aI (all_bad (b:=Sx.nm) hkp (by rw [HX.out];exact HBB.out))
    go_wp2_with (go_at_call 147;(with_reducible refine (CV.out).mono ?_);rintro e w2 ⟨rfl,hb2⟩;replace HB:=aT HB hb2;clear hb2)
    go_ret
    exact ⟨_,rfl,by rw [HR.out];simp,HB.out⟩
   ·go_wp2_with (go_at_call 147;(with_reducible refine (CV.out).mono ?_);rintro e w2 ⟨rfl,hb2⟩;replace HB:=aT HB hb2;clear hb2)
    go_roundg (gk - 1)
    case measure=>omega
    case rel =>
     refine ⟨k+1,by omega,by go_num,HB.out,fun q hq hlt=>?_⟩
     rcases aj q k with h' | h'
     ·exact HA.out q hq h'
     ·obtain rfl:q=k:=by omega
      rw [HX.out];exact HBB.out
  ·have HR:=aI (all_good (b:=Sx.nm) fun q hq=>HA.out q hq (by rw [HN.out] at hq;omega))
   have k1:¬ (k:Int) < (n:Int):=by omega
   go_wp2_with fail
   go_ret
   exact ⟨_,rfl,by rw [HR.out];rfl,HB.out⟩
theorem conS_any (l:List (ByteArray)) (A:Option Addr) (c g:Nat) (W:World) (hs:SlAt [] W A l) (hm:l.length<=9223372036854775807) (hp:∀ x∈l,True) (hg:W.cell? ⟨g,0,none⟩=some rtS) :
  Calls Tryz.prog 146 #[.slice A l.length c,oneS g] W (BoolP (!l.all Sx.nm) W):=by
 have CI:=aI (idxS_any l A c g W hs hm hp hg)
 obtain ⟨n,hn⟩:=aX l.length
 rw [hn] at CI ⊢
 clear hs hm hn hp hg
 generalize oneS g=F at *
 go_enter Tryz.func146,Tryz.ntmps146
 go_wp2_with (go_at_call 170;(with_reducible refine (CI.out).mono ?_);rintro e w2 ⟨r,rfl,hr,hb2⟩;have HB:=aI hb2;have HR:=aI hr;clear hb2 hr)
 go_ret
 exact ⟨by rw [<-HR.out];rfl,HB.out⟩
theorem allS_any (l:List (ByteArray)) (A:Option Addr) (c:Nat) (w:World) (hs:SlAt [] w A l) (hm:l.length<=9223372036854775807) (hp:∀ x∈l,True) :
  Calls Tryz.prog 116 #[.slice A l.length c,rtS] w (BoolP (l.all Sx.nm) w):=by
 have hB1:Below w.heap.size w (w.alloc (.cells #[rtS] 83)):=aP _ _
 have CC:=aI (conS_any l A c w.heap.size (w.alloc (.cells #[rtS] 83)) (hs.keep (Chg.of_below hB1)) hm hp (cell_box1 w _ _))
 obtain ⟨n,hn⟩:=aX l.length
 rw [hn] at CC ⊢
 generalize l.all Sx.nm=r at *
 unfold rtS at CC hB1 ⊢
 unfold oneS at CC
 have HB1:=aI hB1
 clear hs hm hn hp hB1
 go_enter Tryz.func116,Tryz.ntmps116
 go_wp2_with (go_at_call 146;(with_reducible refine (CC.out).mono ?_);rintro e w2 ⟨rfl,hb2⟩;have HB:=aI (HB1.out.trans (hb2.mono HB1.out.size));clear hb2)
 go_ret
 exact ⟨by cases r <;> rfl,HB.out⟩
theorem sum_take (l:List Int) (k:Nat) (h:k < l.length):(l.take (k+1)).sum=(l.take k).sum+l[k]:=by
 rw [List.take_succ_eq_append_getElem h,List.sum_append];simp
theorem within_bd {n a b:Int} (h:Sx.within n a b=true):a<=n/\n<=b:=by
 unfold Sx.within at h
 have:=Bool.and_eq_true_iff.1 h
 exact ⟨of_decide_eq_true this.1,of_decide_eq_true this.2⟩
theorem isPick_any (ws:List ByteArray) (ns:List Int) (A B:Option Addr) (c d:Nat) (w:World) (hw:SlAt [] w A ws) (hn:SlAt [] w B ns) (hmw:ws.length<=9223372036854775807) (hmn:ns.length<=1000000) :
  Calls Tryz.prog 144 #[.slice A ws.length c,.slice B ns.length d] w (BoolP (Sx.pickB ws ns) w):=by
 have HW:=aI within_any
 obtain ⟨nw,hnw⟩:=aX ws.length
 obtain ⟨nn,hnn⟩:=aX ns.length
 have HNN:=aI hnn
 have HNW:=aI hnw
 have HS:=aI hn
 have CA:=aI (fun w' (hb:Below w.heap.size w w')=>allS_any ws A c w' (hw.keep (Chg.of_below hb)) hmw (fun _ _=>trivial))
 rw [hnw] at CA
 rw [hnw,hnn]
 rw [hnn] at hmn
 unfold rtS at CA
 clear hw hn hnn hnw hmw
 go_enter Tryz.func144,Tryz.ntmps144
 go_wp2_with fail
 go_loopg [5,10] nn (fun r s i wr=>∃ k:Nat,k+r=nn/\i=.int .i64 k/\s=.int .i64 ((ns.take k).sum)/\0<=(ns.take k).sum/\(ns.take k).sum<=1048576*k/\Below w.heap.size w wr/\∀ j (hj:j < ns.length),j < k->Sx.within ns[j] 0 Sx.most=true)
 case atStart=>exact ⟨0,by omega,rfl,rfl,by simp,by simp,Below.refl _ _,fun _ _ h=>by omega⟩
 case round =>
  obtain ⟨k,hk,rfl,rfl,hs0,hs1,hb,hall⟩:=hrel
  obtain ⟨wo,rfl⟩:=aY wr
  have HB:=aI hb
  have HA:=aI hall
  clear hb hall
  obtain ⟨sm,hsm⟩:=aX ((ns.take k).sum)
  rw [hsm] at hs0 hs1 ⊢
  by_cases hlt:k < nn
  ·have hkp:k < ns.length:=by rw [HNN.out];exact hlt
   have k0:(0:Int)<=(k:Int):=aa _
   have k1:(k:Int) < (nn:Int):=by omega
   obtain ⟨b,o,rfl,_,c0,hin⟩:=int_at (HS.out.keep (Chg.of_below HB.out)) k hkp
   have HSM:=aI (sum_take ns k hkp)
   have cv:=HW.out ns[k] 0 1048576
   obtain ⟨bb,hbb⟩:=aX (Sx.within ns[k] 0 1048576)
   rw [hbb] at cv
   have CV:=aI cv
   have HBB:=aI hbb
   have HSE:=aI hsm
   obtain ⟨x,hx⟩:=aX (ns[k])
   rw [hx] at c0 CV HSM hin
   have HX:=aI hx
   clear cv hbb hsm hx
   cases bb
   ·have HR:=aI (show ns.all (fun n=>Sx.within n 0 Sx.most)=false from all_bad hkp HBB.out)
    go_wp2_with (go_at_call 52;(with_reducible refine aS (CV.out _) ?_))
    go_ret
    exact ⟨by unfold Sx.pickB;rw [HR.out];rfl,HB.out⟩
   ·have hbd:=within_bd HBB.out
    rw [HX.out] at hbd
    go_wp2_with (go_at_call 52;(with_reducible refine aS (CV.out _) ?_))
    go_roundg (gk - 1)
    case measure=>omega
    case rel =>
     refine ⟨k+1,by omega,by go_num,?_,?_,?_,HB.out,fun q hq hlt=>?_⟩
     ·rw [HSM.out,HSE.out]
     ·rw [HSM.out,HSE.out];omega
     ·rw [HSM.out,HSE.out];omega
     ·rcases aj q k with h' | h'
      ·exact HA.out q hq h'
      ·obtain rfl:q=k:=by omega
       exact HBB.out
  ·have k1:¬ (k:Int) < (nn:Int):=by omega
   have hR:=all_good (b:=fun n=>Sx.within n 0 Sx.most) (l:=ns) fun q hq=>HA.out q hq (by rw [HNN.out] at hq;omega)
   have hsum:ns.sum=sm:=by rw [<-hsm,List.take_of_length_le (by rw [HNN.out];omega)]
   have hp:Sx.pickB ws ns=(Sx.within (nw:Int) 1 12 && (decide (nw=nn) && (decide (0 < sm) && ws.all Sx.nm))):=by
    unfold Sx.pickB
    rw [hR,hsum,HNN.out,HNW.out];rfl
   have cw:=HW.out (nw:Int) 1 12
   have ca:=CA.out wo HB.out
   obtain ⟨b1,h1⟩:=aX (Sx.within (nw:Int) 1 12)
   obtain ⟨b2,h2⟩:∃ b,decide (nw=nn)=b:=⟨_,rfl⟩
   obtain ⟨b3,h3⟩:=aX (decide (0 < sm))
   obtain ⟨b4,h4⟩:=aX (ws.all Sx.nm)
   rw [h1] at cw
   rw [h4] at ca
   rw [h1,h2,h3,h4] at hp
   have HPK:=aI hp
   have h2':((nw:Int) == (nn:Int))=b2:=by
    by_cases h:nw=nn
    ·rw [<-h2,h];simp
    ·rw [<-h2,ad h];exact beq_eq_false_iff_ne.2 (by omega)
   have CW:=aI cw
   have CS:=aI ca
   clear cw ca hp hsum hR hsm h1 h4 hs0 hs1
   cases b1 <;> cases b2 <;> cases b3 <;> (go_wp2_with (first | (go_at_call 52;(with_reducible refine aS (CW.out _) ?_)) | (go_at_call 116;(with_reducible refine (CS.out).mono ?_);rintro e w2 ⟨rfl,hb2⟩;replace HB:=aT HB hb2;clear hb2));go_ret;exact ⟨by rw [HPK.out];cases b4 <;> rfl,HB.out⟩)
theorem str_cells {w:World} {A:Option Addr} {l:List ByteArray} (h:SlAt [] w A l) (hl:0 < l.length):∃ b o,A=some ⟨b,o,none⟩/\∀ j,j < l.length->w.cell? ⟨b,o+j,none⟩=some (.string (l.getD j ByteArray.empty)):=by
 obtain ⟨b,o,hA,_,_,_⟩:=str_at h 0 hl
 refine ⟨b,o,hA,fun j hj=>?_⟩
 obtain ⟨b',o',hA',_,hc,_⟩:=str_at h j hj
 obtain ⟨rfl,rfl⟩:=addr_inj (hA.symm.trans hA')
 rw [hc,getD_in hj]
theorem int_cells {w:World} {A:Option Addr} {l:List Int} (h:SlAt [] w A l) (hl:0 < l.length):∃ b o,A=some ⟨b,o,none⟩/\∀ j,j < l.length->w.cell? ⟨b,o+j,none⟩=some (.int .i64 (l.getD j 0)):=by
 obtain ⟨b,o,hA,_,_,_⟩:=int_at h 0 hl
 refine ⟨b,o,hA,fun j hj=>?_⟩
 obtain ⟨b',o',hA',_,hc,_⟩:=int_at h j hj
 obtain ⟨rfl,rfl⟩:=addr_inj (hA.symm.trans hA')
 rw [hc,getD_in hj]
theorem eqS_any (xs ys:List ByteArray) (A B:Option Addr) (c d:Nat) (w:World) (ha:SlAt [] w A xs) (hb:SlAt [] w B ys) (hx:xs.length<=9223372036854775807) (hy:ys.length<=9223372036854775807) :
  Calls Tryz.prog 65 #[.slice A xs.length c,.slice B ys.length d] w (BoolP (decide (xs=ys)) w):=by
 by_cases hl:xs.length=ys.length
 ·by_cases h0:xs.length=0
  ·have e1:xs=[]:=List.length_eq_zero_iff.1 h0
   have e2:ys=[]:=List.length_eq_zero_iff.1 (by omega)
   subst e1 e2
   exact (Tryz.slices_Equal_string_empty A B c 0 d w (Nat.zero_le _)).mono fun e w' ⟨h1,h2⟩=>⟨by rw [h1];rfl,by rw [h2];exact Below.refl _ _⟩
  ·obtain ⟨b1,o1,rfl,c1⟩:=str_cells ha (by omega)
   obtain ⟨b2,o2,rfl,c2⟩:=str_cells hb (by omega)
   refine (Tryz.slices_Equal_string b1 o1 xs.length c b2 o2 ys.length d xs ys w (ag _) (ag _) hx hy c1 c2).mono fun e w' ⟨h1,q,h2⟩=>⟨?_,by rw [h2];exact w_drew w q⟩
   rw [h1,List.take_length,List.take_length]
 ·exact (Tryz.slices_Equal_string_lens A B xs.length c ys.length d w hl).mono fun e w' ⟨h1,h2⟩=>⟨by rw [h1,ad (fun h=>hl (by rw [h]))],by rw [h2];exact Below.refl _ _⟩
theorem eqI_any (xs ys:List Int) (A B:Option Addr) (c d:Nat) (w:World) (ha:SlAt [] w A xs) (hb:SlAt [] w B ys) (hx:xs.length<=9223372036854775807) (hy:ys.length<=9223372036854775807) :
  Calls Tryz.prog 121 #[.slice A xs.length c,.slice B ys.length d] w (BoolP (decide (xs=ys)) w):=by
 by_cases hl:xs.length=ys.length
 ·by_cases h0:xs.length=0
  ·have e1:xs=[]:=List.length_eq_zero_iff.1 h0
   have e2:ys=[]:=List.length_eq_zero_iff.1 (by omega)
   subst e1 e2
   exact (Tryz.slices_Equal_int_empty A B c 0 d w (Nat.zero_le _)).mono fun e w' ⟨h1,h2⟩=>⟨by rw [h1];rfl,by rw [h2];exact Below.refl _ _⟩
  ·obtain ⟨b1,o1,rfl,c1⟩:=int_cells ha (by omega)
   obtain ⟨b2,o2,rfl,c2⟩:=int_cells hb (by omega)
   refine (Tryz.slices_Equal_int b1 o1 xs.length c b2 o2 ys.length d xs ys w (ag _) (ag _) hx hy c1 c2).mono fun e w' ⟨h1,q,h2⟩=>⟨?_,by rw [h2];exact w_drew w q⟩
   rw [h1,List.take_length,List.take_length]
   by_cases h:xs=ys
   ·rw [ac h,h];simp
   ·rw [ad h,beq_eq_false_iff_ne.2 h]
 ·exact (Tryz.slices_Equal_int_lens A B xs.length c ys.length d w hl).mono fun e w' ⟨h1,h2⟩=>⟨by rw [h1,ad (fun h=>hl (by rw [h]))],by rw [h2];exact Below.refl _ _⟩
def Sx.sameF (a b:Fld):Bool:=decide (Sc.nm a=Sc.nm b) && (decide (Sc.of_ a=Sc.of_ b) && (decide (Sc.up a=Sc.up b) && (decide (Sc.kd a=Sc.kd b) && (decide (Sc.lo a=Sc.lo b) && (decide (Sc.hi a=Sc.hi b) && (decide (Sc.words a=Sc.words b) && (decide (Sc.wts a=Sc.wts b))))))))
theorem strEqB (s t:ByteArray):(s.toList == t.toList)=decide (s=t):=by
 by_cases h:s=t
 ·rw [ac h,h];exact strEq_true t
 ·rw [ad h];exact strEq_false h
theorem intEqB (a b:Int):(a == b)=decide (a=b):=by by_cases h:a=b <;> simp [h]
theorem sameField_any (a b:Fld) (us vs:List Value) (w:World) (ha:Mem.rep [] w a us) (hb:Mem.rep [] w b vs) :
  Calls Tryz.prog 62 #[.agg us.toArray,.agg vs.toArray] w (BoolP (Sx.sameF a b) w):=by
 obtain ⟨A,c,B,d,rfl,s1,s2,a4,a5,a6,a1,a2,a3,b1,b2,e1,e2⟩:=rep_fld ha
 obtain ⟨A',c',B',d',rfl,s1',s2',a4',a5',a6',a1',a2',a3',b1',b2',e1',e2'⟩:=rep_fld hb
 obtain ⟨W1,hW1⟩:=aX ((w.alloc (.cells #[.string (Sc.nm a),.string (Sc.of_ a),.string (Sc.up a),.int .i64 (Sc.kd a),.int .i64 (Sc.lo a),.int .i64 (Sc.hi a),.slice A (Sc.words a).length c,.slice B (Sc.wts a).length d] 52)))
 obtain ⟨W2,hW2⟩:=aX ((W1.alloc (.cells #[.string (Sc.nm b),.string (Sc.of_ b),.string (Sc.up b),.int .i64 (Sc.kd b),.int .i64 (Sc.lo b),.int .i64 (Sc.hi b),.slice A' (Sc.words b).length c',.slice B' (Sc.wts b).length d'] 52)))
 have hB1:Below w.heap.size w W1:=by rw [<-hW1];exact aP _ _
 have hB2:Below w.heap.size w W2:=by rw [<-hW2];exact hB1.alloc hB1.size _
 have CS:=aI (fun w' (hb:Below w.heap.size w w')=>eqS_any (Sc.words a) (Sc.words b) A A' c c' w' (s1.keep (Chg.of_below hb)) (s1'.keep (Chg.of_below hb)) (ah b1 b2) (ah b1' b2'))
 have CI:=aI (fun w' (hb:Below w.heap.size w w')=>eqI_any (Sc.wts a) (Sc.wts b) B B' d d' w' (s2.keep (Chg.of_below hb)) (s2'.keep (Chg.of_below hb)) (ah e1 e2) (ah e1' e2'))
 have hz1:W1.heap.size=w.heap.size+1:=by rw [<-hW1];show (w.heap.push _).size=_;rw [Array.size_push]
 have hc7:W2.cell? ⟨w.heap.size,7,none⟩=some (.slice B (Sc.wts a).length d):=by
  have h1:W1.cell? ⟨w.heap.size,7,none⟩=some (.slice B (Sc.wts a).length d):=by rw [<-hW1];exact (Blk.new w _ _).cell 7
  have h2:Below W1.heap.size W1 W2:=by rw [<-hW2];exact (Below.refl W1.heap.size W1).alloc (ag _) _
  exact (h2.cell (World.block_lt_of_cell? _ _ h1)).trans h1
 have hd7:W2.cell? ⟨w.heap.size+1,7,none⟩=some (.slice B' (Sc.wts b).length d'):=by rw [<-hz1,<-hW2];exact (Blk.new W1 _ _).cell 7
 have HC7:=aI hc7
 have HD7:=aI hd7
 have HB:=aI hB2
 have HW1:=aI hW1
 have HW2:=aI hW2
 show Calls Tryz.prog 62 #[.agg #[.string (Sc.nm a),.string (Sc.of_ a),.string (Sc.up a),.int .i64 (Sc.kd a),.int .i64 (Sc.lo a),.int .i64 (Sc.hi a),.slice A (Sc.words a).length c,.slice B (Sc.wts a).length d],.agg #[.string (Sc.nm b),.string (Sc.of_ b),.string (Sc.up b),.int .i64 (Sc.kd b),.int .i64 (Sc.lo b),.int .i64 (Sc.hi b),.slice A' (Sc.words b).length c',.slice B' (Sc.wts b).length d']] w _
 clear ha hb s1 s2 s1' s2' hB1 hB2 hW1 hW2 hz1 hc7 hd7 a1 a2 a3 a4 a5 a6 a1' a2' a3' a4' a5' a6' b1 b2 b1' b2' e1 e2 e1' e2'
 obtain ⟨r0,h0⟩:∃ r,decide (Sc.nm a=Sc.nm b)=r:=⟨_,rfl⟩
 obtain ⟨r1,h1⟩:∃ r,decide (Sc.of_ a=Sc.of_ b)=r:=⟨_,rfl⟩
 obtain ⟨r2,h2⟩:∃ r,decide (Sc.up a=Sc.up b)=r:=⟨_,rfl⟩
 obtain ⟨r3,h3⟩:∃ r,decide (Sc.kd a=Sc.kd b)=r:=⟨_,rfl⟩
 obtain ⟨r4,h4⟩:∃ r,decide (Sc.lo a=Sc.lo b)=r:=⟨_,rfl⟩
 obtain ⟨r5,h5⟩:∃ r,decide (Sc.hi a=Sc.hi b)=r:=⟨_,rfl⟩
 obtain ⟨r6,h6⟩:∃ r,decide (Sc.words a=Sc.words b)=r:=⟨_,rfl⟩
 obtain ⟨r7,h7⟩:∃ r,decide (Sc.wts a=Sc.wts b)=r:=⟨_,rfl⟩
 have HF:=aI (show Sx.sameF a b=(r0 && (r1 && (r2 && (r3 && (r4 && (r5 && (r6 && (r7)))))))) by unfold Sx.sameF;rw [h0,h1,h2,h3,h4,h5,h6,h7])
 rw [h6] at CS
 rw [h7] at CI
 have q0:((Sc.nm a).toList == (Sc.nm b).toList)=r0:=by rw [<-h0];exact strEqB _ _
 have q1:((Sc.of_ a).toList == (Sc.of_ b).toList)=r1:=by rw [<-h1];exact strEqB _ _
 have q2:((Sc.up a).toList == (Sc.up b).toList)=r2:=by rw [<-h2];exact strEqB _ _
 have q3:(Sc.kd a == Sc.kd b)=r3:=by rw [<-h3];exact intEqB _ _
 have q4:(Sc.lo a == Sc.lo b)=r4:=by rw [<-h4];exact intEqB _ _
 have q5:(Sc.hi a == Sc.hi b)=r5:=by rw [<-h5];exact intEqB _ _
 clear h0 h1 h2 h3 h4 h5 h6 h7
 generalize Sx.sameF a b=sf at *
 generalize Sc.nm a=xnm at *
 generalize Sc.nm b=ynm at *
 generalize Sc.of_ a=xof at *
 generalize Sc.of_ b=yof at *
 generalize Sc.up a=xup at *
 generalize Sc.up b=yup at *
 generalize Sc.kd a=xkd at *
 generalize Sc.kd b=ykd at *
 generalize Sc.lo a=xlo at *
 generalize Sc.lo b=ylo at *
 generalize Sc.hi a=xhi at *
 generalize Sc.hi b=yhi at *
 generalize (Sc.words a).length=xwords at *
 generalize (Sc.words b).length=ywords at *
 generalize (Sc.wts a).length=xwts at *
 generalize (Sc.wts b).length=ywts at *
 go_enter Tryz.func62,Tryz.ntmps62
 cases r0
 ·go_wp2_with (first | (go_at_call 65;rw [HW1.out,HW2.out];(with_reducible refine (CS.out _ HB.out).mono ?_);rintro e w2 ⟨rfl,hb2⟩;have z7:=(hb2.cell (World.block_lt_of_cell? _ _ HC7.out)).trans HC7.out;have z8:=(hb2.cell (World.block_lt_of_cell? _ _ HD7.out)).trans HD7.out;replace HB:=aT HB hb2;clear hb2) | (go_at_call 121;(with_reducible refine (CI.out _ HB.out).mono ?_);rintro e w2 ⟨rfl,hb2⟩;replace HB:=aT HB hb2;clear hb2))
  go_ret
  exact ⟨by rw [HF.out];rfl,by first | exact HB.out | (rw [HW1.out,HW2.out];exact HB.out)⟩
 cases r1
 ·go_wp2_with (first | (go_at_call 65;rw [HW1.out,HW2.out];(with_reducible refine (CS.out _ HB.out).mono ?_);rintro e w2 ⟨rfl,hb2⟩;have z7:=(hb2.cell (World.block_lt_of_cell? _ _ HC7.out)).trans HC7.out;have z8:=(hb2.cell (World.block_lt_of_cell? _ _ HD7.out)).trans HD7.out;replace HB:=aT HB hb2;clear hb2) | (go_at_call 121;(with_reducible refine (CI.out _ HB.out).mono ?_);rintro e w2 ⟨rfl,hb2⟩;replace HB:=aT HB hb2;clear hb2))
  go_ret
  exact ⟨by rw [HF.out];rfl,by first | exact HB.out | (rw [HW1.out,HW2.out];exact HB.out)⟩
 cases r2
 ·go_wp2_with (first | (go_at_call 65;rw [HW1.out,HW2.out];(with_reducible refine (CS.out _ HB.out).mono ?_);rintro e w2 ⟨rfl,hb2⟩;have z7:=(hb2.cell (World.block_lt_of_cell? _ _ HC7.out)).trans HC7.out;have z8:=(hb2.cell (World.block_lt_of_cell? _ _ HD7.out)).trans HD7.out;replace HB:=aT HB hb2;clear hb2) | (go_at_call 121;(with_reducible refine (CI.out _ HB.out).mono ?_);rintro e w2 ⟨rfl,hb2⟩;replace HB:=aT HB hb2;clear hb2))
  go_ret
  exact ⟨by rw [HF.out];rfl,by first | exact HB.out | (rw [HW1.out,HW2.out];exact HB.out)⟩
 cases r3
 ·go_wp2_with (first | (go_at_call 65;rw [HW1.out,HW2.out];(with_reducible refine (CS.out _ HB.out).mono ?_);rintro e w2 ⟨rfl,hb2⟩;have z7:=(hb2.cell (World.block_lt_of_cell? _ _ HC7.out)).trans HC7.out;have z8:=(hb2.cell (World.block_lt_of_cell? _ _ HD7.out)).trans HD7.out;replace HB:=aT HB hb2;clear hb2) | (go_at_call 121;(with_reducible refine (CI.out _ HB.out).mono ?_);rintro e w2 ⟨rfl,hb2⟩;replace HB:=aT HB hb2;clear hb2))
  go_ret
  exact ⟨by rw [HF.out];rfl,by first | exact HB.out | (rw [HW1.out,HW2.out];exact HB.out)⟩
 cases r4
 ·go_wp2_with (first | (go_at_call 65;rw [HW1.out,HW2.out];(with_reducible refine (CS.out _ HB.out).mono ?_);rintro e w2 ⟨rfl,hb2⟩;have z7:=(hb2.cell (World.block_lt_of_cell? _ _ HC7.out)).trans HC7.out;have z8:=(hb2.cell (World.block_lt_of_cell? _ _ HD7.out)).trans HD7.out;replace HB:=aT HB hb2;clear hb2) | (go_at_call 121;(with_reducible refine (CI.out _ HB.out).mono ?_);rintro e w2 ⟨rfl,hb2⟩;replace HB:=aT HB hb2;clear hb2))
  go_ret
  exact ⟨by rw [HF.out];rfl,by first | exact HB.out | (rw [HW1.out,HW2.out];exact HB.out)⟩
 cases r5
 ·go_wp2_with (first | (go_at_call 65;rw [HW1.out,HW2.out];(with_reducible refine (CS.out _ HB.out).mono ?_);rintro e w2 ⟨rfl,hb2⟩;have z7:=(hb2.cell (World.block_lt_of_cell? _ _ HC7.out)).trans HC7.out;have z8:=(hb2.cell (World.block_lt_of_cell? _ _ HD7.out)).trans HD7.out;replace HB:=aT HB hb2;clear hb2) | (go_at_call 121;(with_reducible refine (CI.out _ HB.out).mono ?_);rintro e w2 ⟨rfl,hb2⟩;replace HB:=aT HB hb2;clear hb2))
  go_ret
  exact ⟨by rw [HF.out];rfl,by first | exact HB.out | (rw [HW1.out,HW2.out];exact HB.out)⟩
 cases r6
 ·go_wp2_with (first | (go_at_call 65;rw [HW1.out,HW2.out];(with_reducible refine (CS.out _ HB.out).mono ?_);rintro e w2 ⟨rfl,hb2⟩;have z7:=(hb2.cell (World.block_lt_of_cell? _ _ HC7.out)).trans HC7.out;have z8:=(hb2.cell (World.block_lt_of_cell? _ _ HD7.out)).trans HD7.out;replace HB:=aT HB hb2;clear hb2) | (go_at_call 121;(with_reducible refine (CI.out _ HB.out).mono ?_);rintro e w2 ⟨rfl,hb2⟩;replace HB:=aT HB hb2;clear hb2))
  go_ret
  exact ⟨by rw [HF.out];rfl,by first | exact HB.out | (rw [HW1.out,HW2.out];exact HB.out)⟩
 go_wp2_with (first | (go_at_call 65;rw [HW1.out,HW2.out];(with_reducible refine (CS.out _ HB.out).mono ?_);rintro e w2 ⟨rfl,hb2⟩;have z7:=(hb2.cell (World.block_lt_of_cell? _ _ HC7.out)).trans HC7.out;have z8:=(hb2.cell (World.block_lt_of_cell? _ _ HD7.out)).trans HD7.out;replace HB:=aT HB hb2;clear hb2) | (go_at_call 121;(with_reducible refine (CI.out _ HB.out).mono ?_);rintro e w2 ⟨rfl,hb2⟩;replace HB:=aT HB hb2;clear hb2))
 go_ret
 exact ⟨by rw [HF.out];cases r7 <;> rfl,HB.out⟩
def Sx.only (f:Fld):Fld :=
 if Sc.kd f=0 then (Sc.nm f,⟨#[]⟩,⟨#[]⟩,0,Sc.lo f,0,[],[])
 else if Sc.kd f=1∨Sc.kd f=4∨Sc.kd f=5 then (Sc.nm f,Sc.of_ f,⟨#[]⟩,Sc.kd f,Sc.lo f,Sc.hi f,[],[])
 else if Sc.kd f=2 then (Sc.nm f,⟨#[]⟩,⟨#[]⟩,2,Sc.lo f,Sc.hi f,[],[])
 else if Sc.kd f=3 then (Sc.nm f,⟨#[]⟩,⟨#[]⟩,3,0,0,Sc.words f,Sc.wts f)
 else if Sc.kd f=6 then (Sc.nm f,Sc.of_ f,⟨#[]⟩,6,0,0,[],[])
 else if Sc.kd f=7 then (Sc.nm f,Sc.of_ f,Sc.up f,7,Sc.lo f,Sc.hi f,[],[])
 else if Sc.kd f=8 then (Sc.nm f,Sc.of_ f,Sc.up f,8,0,0,[],[])
 else (Sc.nm f,⟨#[]⟩,⟨#[]⟩,Sc.kd f,0,0,[],[])
theorem only_0 (nm of_ up:ByteArray) (lo hi:Int) (A B:Option Addr) (a b c d:Nat) (w:World) :
  Calls Tryz.prog 143 #[.agg #[.string nm,.string of_,.string up,.int .i64 0,.int .i64 lo,.int .i64 hi,.slice A a c,.slice B b d]] w fun e w'=>e=.returned (.agg #[.string nm,.string ⟨#[]⟩,.string ⟨#[]⟩,.int .i64 0,.int .i64 lo,.int .i64 0,.slice none 0 0,.slice none 0 0])/\Below w.heap.size w w':=by
 go_enter Tryz.func143,Tryz.ntmps143
 go_upto_region 19 with fail
 go_wp2_with fail
 refine bodyPost_ret (v:=.agg #[.string nm,.string ⟨#[]⟩,.string ⟨#[]⟩,.int .i64 0,.int .i64 lo,.int .i64 0,.slice none 0 0,.slice none 0 0]) ?_ rfl ?_
 ·simp [results,Tryz.results143,go_sem]
 ·exact ⟨rfl,by go_grown⟩
theorem only_1 (nm of_ up:ByteArray) (lo hi:Int) (A B:Option Addr) (a b c d:Nat) (w:World) :
  Calls Tryz.prog 143 #[.agg #[.string nm,.string of_,.string up,.int .i64 1,.int .i64 lo,.int .i64 hi,.slice A a c,.slice B b d]] w fun e w'=>e=.returned (.agg #[.string nm,.string of_,.string ⟨#[]⟩,.int .i64 1,.int .i64 lo,.int .i64 hi,.slice none 0 0,.slice none 0 0])/\Below w.heap.size w w':=by
 go_enter Tryz.func143,Tryz.ntmps143
 go_upto_region 8 with fail
 go_region
 go_upto_region 19 with fail
 go_wp2_with fail
 refine bodyPost_ret (v:=.agg #[.string nm,.string of_,.string ⟨#[]⟩,.int .i64 1,.int .i64 lo,.int .i64 hi,.slice none 0 0,.slice none 0 0]) ?_ rfl ?_
 ·simp [results,Tryz.results143,go_sem]
 ·exact ⟨rfl,by go_grown⟩
theorem only_2 (nm of_ up:ByteArray) (lo hi:Int) (A B:Option Addr) (a b c d:Nat) (w:World) :
  Calls Tryz.prog 143 #[.agg #[.string nm,.string of_,.string up,.int .i64 2,.int .i64 lo,.int .i64 hi,.slice A a c,.slice B b d]] w fun e w'=>e=.returned (.agg #[.string nm,.string ⟨#[]⟩,.string ⟨#[]⟩,.int .i64 2,.int .i64 lo,.int .i64 hi,.slice none 0 0,.slice none 0 0])/\Below w.heap.size w w':=by
 go_enter Tryz.func143,Tryz.ntmps143
 go_upto_region 10 with fail
 go_region
 go_upto_region 19 with fail
 go_wp2_with fail
 refine bodyPost_ret (v:=.agg #[.string nm,.string ⟨#[]⟩,.string ⟨#[]⟩,.int .i64 2,.int .i64 lo,.int .i64 hi,.slice none 0 0,.slice none 0 0]) ?_ rfl ?_
 ·simp [results,Tryz.results143,go_sem]
 ·exact ⟨rfl,by go_grown⟩
theorem only_3 (nm of_ up:ByteArray) (lo hi:Int) (A B:Option Addr) (a b c d:Nat) (w:World) :
  Calls Tryz.prog 143 #[.agg #[.string nm,.string of_,.string up,.int .i64 3,.int .i64 lo,.int .i64 hi,.slice A a c,.slice B b d]] w fun e w'=>e=.returned (.agg #[.string nm,.string ⟨#[]⟩,.string ⟨#[]⟩,.int .i64 3,.int .i64 0,.int .i64 0,.slice A a c,.slice B b d])/\Below w.heap.size w w':=by
 go_enter Tryz.func143,Tryz.ntmps143
 go_upto_region 12 with fail
 go_region
 go_upto_region 19 with fail
 go_wp2_with fail
 refine bodyPost_ret (v:=.agg #[.string nm,.string ⟨#[]⟩,.string ⟨#[]⟩,.int .i64 3,.int .i64 0,.int .i64 0,.slice A a c,.slice B b d]) ?_ rfl ?_
 ·simp [results,Tryz.results143,go_sem]
 ·exact ⟨rfl,by go_grown⟩
theorem only_4 (nm of_ up:ByteArray) (lo hi:Int) (A B:Option Addr) (a b c d:Nat) (w:World) :
  Calls Tryz.prog 143 #[.agg #[.string nm,.string of_,.string up,.int .i64 4,.int .i64 lo,.int .i64 hi,.slice A a c,.slice B b d]] w fun e w'=>e=.returned (.agg #[.string nm,.string of_,.string ⟨#[]⟩,.int .i64 4,.int .i64 lo,.int .i64 hi,.slice none 0 0,.slice none 0 0])/\Below w.heap.size w w':=by
 go_enter Tryz.func143,Tryz.ntmps143
 go_upto_region 8 with fail
 go_region
 go_upto_region 19 with fail
 go_wp2_with fail
 refine bodyPost_ret (v:=.agg #[.string nm,.string of_,.string ⟨#[]⟩,.int .i64 4,.int .i64 lo,.int .i64 hi,.slice none 0 0,.slice none 0 0]) ?_ rfl ?_
 ·simp [results,Tryz.results143,go_sem]
 ·exact ⟨rfl,by go_grown⟩
theorem only_5 (nm of_ up:ByteArray) (lo hi:Int) (A B:Option Addr) (a b c d:Nat) (w:World) :
  Calls Tryz.prog 143 #[.agg #[.string nm,.string of_,.string up,.int .i64 5,.int .i64 lo,.int .i64 hi,.slice A a c,.slice B b d]] w fun e w'=>e=.returned (.agg #[.string nm,.string of_,.string ⟨#[]⟩,.int .i64 5,.int .i64 lo,.int .i64 hi,.slice none 0 0,.slice none 0 0])/\Below w.heap.size w w':=by
 go_enter Tryz.func143,Tryz.ntmps143
 go_upto_region 8 with fail
 go_region
 go_upto_region 19 with fail
 go_wp2_with fail
 refine bodyPost_ret (v:=.agg #[.string nm,.string of_,.string ⟨#[]⟩,.int .i64 5,.int .i64 lo,.int .i64 hi,.slice none 0 0,.slice none 0 0]) ?_ rfl ?_
 ·simp [results,Tryz.results143,go_sem]
 ·exact ⟨rfl,by go_grown⟩
theorem only_6 (nm of_ up:ByteArray) (lo hi:Int) (A B:Option Addr) (a b c d:Nat) (w:World) :
  Calls Tryz.prog 143 #[.agg #[.string nm,.string of_,.string up,.int .i64 6,.int .i64 lo,.int .i64 hi,.slice A a c,.slice B b d]] w fun e w'=>e=.returned (.agg #[.string nm,.string of_,.string ⟨#[]⟩,.int .i64 6,.int .i64 0,.int .i64 0,.slice none 0 0,.slice none 0 0])/\Below w.heap.size w w':=by
 go_enter Tryz.func143,Tryz.ntmps143
 go_upto_region 19 with fail
 go_wp2_with fail
 refine bodyPost_ret (v:=.agg #[.string nm,.string of_,.string ⟨#[]⟩,.int .i64 6,.int .i64 0,.int .i64 0,.slice none 0 0,.slice none 0 0]) ?_ rfl ?_
 ·simp [results,Tryz.results143,go_sem]
 ·exact ⟨rfl,by go_grown⟩
theorem only_7 (nm of_ up:ByteArray) (lo hi:Int) (A B:Option Addr) (a b c d:Nat) (w:World) :
  Calls Tryz.prog 143 #[.agg #[.string nm,.string of_,.string up,.int .i64 7,.int .i64 lo,.int .i64 hi,.slice A a c,.slice B b d]] w fun e w'=>e=.returned (.agg #[.string nm,.string of_,.string up,.int .i64 7,.int .i64 lo,.int .i64 hi,.slice none 0 0,.slice none 0 0])/\Below w.heap.size w w':=by
 go_enter Tryz.func143,Tryz.ntmps143
 go_upto_region 16 with fail
 go_region
 go_upto_region 19 with fail
 go_wp2_with fail
 refine bodyPost_ret (v:=.agg #[.string nm,.string of_,.string up,.int .i64 7,.int .i64 lo,.int .i64 hi,.slice none 0 0,.slice none 0 0]) ?_ rfl ?_
 ·simp [results,Tryz.results143,go_sem]
 ·exact ⟨rfl,by go_grown⟩
theorem only_8 (nm of_ up:ByteArray) (lo hi:Int) (A B:Option Addr) (a b c d:Nat) (w:World) :
  Calls Tryz.prog 143 #[.agg #[.string nm,.string of_,.string up,.int .i64 8,.int .i64 lo,.int .i64 hi,.slice A a c,.slice B b d]] w fun e w'=>e=.returned (.agg #[.string nm,.string of_,.string up,.int .i64 8,.int .i64 0,.int .i64 0,.slice none 0 0,.slice none 0 0])/\Below w.heap.size w w':=by
 go_enter Tryz.func143,Tryz.ntmps143
 go_upto_region 18 with fail
 go_region
 go_upto_region 19 with fail
 go_wp2_with fail
 refine bodyPost_ret (v:=.agg #[.string nm,.string of_,.string up,.int .i64 8,.int .i64 0,.int .i64 0,.slice none 0 0,.slice none 0 0]) ?_ rfl ?_
 ·simp [results,Tryz.results143,go_sem]
 ·exact ⟨rfl,by go_grown⟩
theorem only_9 (nm of_ up:ByteArray) (lo hi:Int) (A B:Option Addr) (a b c d:Nat) (kd:Int) (hk:∀ j:Nat,j < 9->kd≠(j:Int)) (w:World) :
  Calls Tryz.prog 143 #[.agg #[.string nm,.string of_,.string up,.int .i64 kd,.int .i64 lo,.int .i64 hi,.slice A a c,.slice B b d]] w fun e w'=>e=.returned (.agg #[.string nm,.string ⟨#[]⟩,.string ⟨#[]⟩,.int .i64 kd,.int .i64 0,.int .i64 0,.slice none 0 0,.slice none 0 0])/\Below w.heap.size w w':=by
 have k0:(kd == 0)=false:=beq_eq_false_iff_ne.2 (hk 0 (by omega))
 have k1:(kd == 1)=false:=beq_eq_false_iff_ne.2 (hk 1 (by omega))
 have k2:(kd == 2)=false:=beq_eq_false_iff_ne.2 (hk 2 (by omega))
 have k3:(kd == 3)=false:=beq_eq_false_iff_ne.2 (hk 3 (by omega))
 have k4:(kd == 4)=false:=beq_eq_false_iff_ne.2 (hk 4 (by omega))
 have k5:(kd == 5)=false:=beq_eq_false_iff_ne.2 (hk 5 (by omega))
 have k6:(kd == 6)=false:=beq_eq_false_iff_ne.2 (hk 6 (by omega))
 have k7:(kd == 7)=false:=beq_eq_false_iff_ne.2 (hk 7 (by omega))
 have k8:(kd == 8)=false:=beq_eq_false_iff_ne.2 (hk 8 (by omega))
 clear hk
 go_enter Tryz.func143,Tryz.ntmps143
 go_upto_region 19 with fail
 go_wp2_with fail
 refine bodyPost_ret (v:=.agg #[.string nm,.string ⟨#[]⟩,.string ⟨#[]⟩,.int .i64 kd,.int .i64 0,.int .i64 0,.slice none 0 0,.slice none 0 0]) ?_ rfl ?_
 ·simp [results,Tryz.results143,go_sem]
 ·exact ⟨rfl,by go_grown⟩
theorem fld_rep {G:List Nat} {w:World} {nm of_ up:ByteArray} {kd lo hi:Int} {ws:List ByteArray} {ns:List Int} {A B:Option Addr} {c d:Nat} (h1:nm.size<=9223372036854775807) (h2:of_.size<=9223372036854775807) (h3:up.size<=9223372036854775807) (h4:inI kd) (h5:inI lo) (h6:inI hi)
  (s1:SlAt G w A ws) (s2:SlAt G w B ns) (b1:ws.length<=c) (b2:c<=9223372036854775807) (e1:ns.length<=d) (e2:d<=9223372036854775807) :
  Mem.rep G w ((nm,of_,up,kd,lo,hi,ws,ns):Fld) [.string nm,.string of_,.string up,.int .i64 kd,.int .i64 lo,.int .i64 hi,.slice A ws.length c,.slice B ns.length d] :=
 ⟨[.string nm],_,rfl,⟨rfl,h1⟩,[.string of_],_,rfl,⟨rfl,h2⟩,[.string up],_,rfl,⟨rfl,h3⟩,[.int .i64 kd],_,rfl,⟨rfl,h4⟩,[.int .i64 lo],_,rfl,⟨rfl,h5⟩,[.int .i64 hi],_,rfl,⟨rfl,h6⟩,[.slice A ws.length c],_,rfl,⟨A,c,rfl,b1,b2,s1⟩,⟨B,d,rfl,e1,e2,s2⟩⟩
theorem empty_size:(⟨#[]⟩:ByteArray).size<=9223372036854775807:=by decide
theorem only_eq (nm of_ up:ByteArray) (kd lo hi:Int) (ws:List ByteArray) (ns:List Int):Sx.only (nm,of_,up,kd,lo,hi,ws,ns) =
  if kd=0 then (nm,⟨#[]⟩,⟨#[]⟩,0,lo,0,[],[])
  else if kd=1∨kd=4∨kd=5 then (nm,of_,⟨#[]⟩,kd,lo,hi,[],[])
  else if kd=2 then (nm,⟨#[]⟩,⟨#[]⟩,2,lo,hi,[],[])
  else if kd=3 then (nm,⟨#[]⟩,⟨#[]⟩,3,0,0,ws,ns)
  else if kd=6 then (nm,of_,⟨#[]⟩,6,0,0,[],[])
  else if kd=7 then (nm,of_,up,7,lo,hi,[],[])
  else if kd=8 then (nm,of_,up,8,0,0,[],[])
  else (nm,⟨#[]⟩,⟨#[]⟩,kd,0,0,[],[]):=rfl
abbrev Tk:=Nat × Nat
def tokI (p:Tk):Int × Int:=((p.1:Int),(p.2:Int))
def tokVals (l:List Tk):List Value:=l.flatMap fun p=>[.int .i64 (p.1:Int),.int .i64 (p.2:Int)]
theorem tokVals_snoc (l:List Tk) (p:Tk):tokVals l++[.int .i64 (p.1:Int),.int .i64 (p.2:Int)]=tokVals (l++[p]):=by simp [tokVals]
theorem tok_one (a b:Nat):∀ u∈[Value.int .i64 (a:Int),Value.int .i64 (b:Int)],u.oneCell'=true:=by
 intro u hu;simp only [List.mem_cons,List.not_mem_nil,or_false] at hu;rcases hu with rfl | rfl <;> rfl
theorem flat_toks {G:List Nat} {w:World} {n:Nat} (hn:n<=100000000):∀ {l:List Tk},(∀ p∈l,p.1<=p.2/\p.2<=n)->Flat G w (l.map tokI) (tokVals l)
 | [],_=>rfl
 | p::l,h=>⟨[.int .i64 (p.1:Int),.int .i64 (p.2:Int)],tokVals l,rfl,⟨[_],_,rfl,⟨rfl,by have:=h p (.head _);unfold inI tokI;simp only;omega⟩,⟨rfl,by have:=h p (.head _);unfold inI tokI;simp only;omega⟩⟩,flat_toks hn fun q hq=>h q (.tail _ hq)⟩
theorem infoTok:(Tryz.prog.info? 72).map (fun i=>(i.zero,i.size,i.bytes))=some (some (.agg #[.int .i64 0,.int .i64 0]),2,16):=by kernel_rfl
theorem tok_cases2 (c:UInt8):(Vm.isTok c=true/\decide (32 < (c.toNat:Int))=true/\decide ((c.toNat:Int) < 127)=true)∨(Vm.isTok c=false/\decide (32 < (c.toNat:Int))=false)∨(Vm.isTok c=false/\decide (32 < (c.toNat:Int))=true/\decide ((c.toNat:Int) < 127)=false):=by
 unfold Vm.isTok
 simp only [Bool.and_eq_true,Bool.and_eq_false_iff,decide_eq_true_eq,decide_eq_false_iff_not]
 omega
theorem scan_blank {l:List UInt8} {f i:Nat} (h:i < l.length) (hb:Vm.isBlank l[i]=true):Vm.scan l (f+1) i=Vm.scan l (f+1) (i+1):=by
 have e:Vm.skipN l i=Vm.skipN l (i+1):=by
  unfold Vm.skipN
  rw [List.drop_eq_getElem_cons h,List.takeWhile_cons,hb,if_pos rfl,List.length_cons];omega
 rw [Vm.scan_eq,Vm.scan_eq,e]
theorem scan_len {l:List UInt8} {f:Nat}:Vm.scan l (f+1) l.length=([],l.length):=by
 have e:Vm.skipN l l.length=l.length:=by unfold Vm.skipN;simp
 rw [Vm.scan_eq,e];unfold Vm.wordAt;simp
def ScanP (l:List UInt8) (w:World) (e:Ending) (w':World):Prop:=∃ A c,e=.returned (.tuple #[.slice A (Vm.scan l (l.length+1) 0).1.length c,.int .i64 ((Vm.scan l (l.length+1) 0).2:Nat)])/\SlAt [] w' A ((Vm.scan l (l.length+1) 0).1.map tokI)/\(Vm.scan l (l.length+1) 0).1.length<=l.length/\(∀ p∈(Vm.scan l (l.length+1) 0).1,p.1<=p.2/\p.2<=l.length)/\Below w.heap.size w w'
theorem scan_end {s:ByteArray} {w W:World} {M:List Nat} {v:Value} {toks:List Tk} {e n:Nat} (T:HRow w [] M [] [] 72 2 v toks.length (tokVals toks) W) (h:Vm.scan s.data.toList (n+1) 0=(toks,e)) (hn:s.size=n) (hbd:(∀ p∈toks,p.1<=p.2/\p.2<=n)) (hm:n<=100000000) (htl:toks.length<=n):ScanP s.data.toList w (.returned (.tuple #[v,.int .i64 (e:Int)])) W:=by
 obtain ⟨A,c,hv,_,_,hF⟩:=T.freeze (l:=toks.map tokI) rfl (by simp) (flat_toks hm hbd) (fun _ h=>by cases h)
 subst hv
 have hl:s.data.toList.length=n:=by rw [Vm.strLn,hn]
 unfold ScanP
 rw [hl,h]
 exact ⟨A,c,by rw [List.length_map],(hF.fact (.head _)).sub (fun _ h=>by cases h),htl,hbd,hF.bl⟩
theorem scan_any (s:ByteArray) (w:World) (hs:s.size<=100000000):Calls Tryz.prog 29 #[.string s] w (ScanP s.data.toList w):=by
 obtain ⟨i0,hi,hz0,hz1,hz2⟩:=info_parts infoTok
 have HII:=aI (show _/\_/\_/\_ from ⟨hi,hz0,hz1,hz2⟩)
 obtain ⟨n,hn⟩:=aX s.size
 have hsn:s.size=n:=hn
 rw [hn] at hs
 have T:=aI (HRow.start (e:=72) (size:=2) (held0 w [] (fun _ h=>by cases h)))
 clear hi hz0 hz1 hz2
 go_enter Tryz.func29,Tryz.ntmps29
 go_wp2_with fail
 go_loopg [4,5] n (fun r v a wr=>∃ (i f:Nat) (toks:List Tk) (M:List Nat),i+r=n/\a=.int .i64 i/\i<=n/\n < i+f/\toks.length<=i/\(∀ p∈toks,p.1<=p.2/\p.2<=n)/\(toks++(Vm.scan s.data.toList f i).1,(Vm.scan s.data.toList f i).2)=Vm.scan s.data.toList (n+1) 0/\HRow w [] M [] [] 72 2 v toks.length (tokVals toks) wr)
 case atStart=>exact ⟨0,n+1,[],_,by omega,rfl,by omega,by omega,by simp,(fun _ h=>by cases h),by simp,T.out⟩
 case round =>
  obtain ⟨i,f,toks,M,hk,rfl,hin,hfu,htl,hbd,hsc,hH⟩:=hrel
  obtain ⟨wo,rfl⟩:=aY wr
  obtain ⟨gq,rfl⟩:=aY gk
  replace T:=aI hH
  have HBD:=aI hbd
  obtain ⟨f,rfl⟩:∃ f',f=f'+1:=⟨f - 1,by omega⟩
  have HSC:=aI hsc
  have HSE:=aI (Vm.scan_eq s.data.toList f i)
  clear hH hbd hsc
  by_cases hlt:i < n
  ·have hix:i < s.size:=by omega
   have k0:(0:Int)<=(i:Int):=aa _
   have k1:(i:Int) < (n:Int):=by omega
   rcases Vm.blank_cases (s[i]'hix) with ⟨hb,t1⟩ | ⟨hb,t1,t2⟩ | ⟨hb,t1,t2⟩
   ·have HSC2:=aI (show (toks++(Vm.scan s.data.toList (f+1) (i+1)).1,(Vm.scan s.data.toList (f+1) (i+1)).2)=Vm.scan s.data.toList (n+1) 0 by rw [<-HSC.out,scan_blank (f:=f) (i:=i) (by rw [Vm.strLn];exact hix) (by rw [Vm.str_get s i hix];exact hb)])
    clear hb
    go_wp2_with fail
    go_roundg (gq - 1)
    case measure=>omega
    case rel=>exact ⟨i+1,f+1,_,_,by omega,by go_num,by omega,by omega,by omega,HBD.out,HSC2.out,T.out⟩
   ·have HSC2:=aI (show (toks++(Vm.scan s.data.toList (f+1) (i+1)).1,(Vm.scan s.data.toList (f+1) (i+1)).2)=Vm.scan s.data.toList (n+1) 0 by rw [<-HSC.out,scan_blank (f:=f) (i:=i) (by rw [Vm.strLn];exact hix) (by rw [Vm.str_get s i hix];exact hb)])
    clear hb
    go_wp2_with fail
    go_roundg (gq - 1)
    case measure=>omega
    case rel=>exact ⟨i+1,f+1,_,_,by omega,by go_num,by omega,by omega,by omega,HBD.out,HSC2.out,T.out⟩
   ·have HSK:=aI (Vm.skipN_is (l:=s.data.toList) (a:=i) (e:=i) (ag _) (by rw [Vm.strLn];omega) (fun j _ h1 h2=>by omega) (.inr ⟨by rw [Vm.strLn];exact hix,by rw [Vm.str_get s i hix];exact hb⟩))
    clear hb
    go_wp2_with fail
    go_loopg [6] (n - i) (fun r a wr2=>∃ e:Nat,e+r=n/\i<=e/\a=.int .i64 e/\wr2=wo/\∀ j (hj:j < s.data.toList.length),i<=j->j < e->Vm.isTok s.data.toList[j]=true)
    case atStart=>exact ⟨i,by omega,ag _,rfl,rfl,fun j _ h1 h2=>by omega⟩
    case round =>
     obtain ⟨e,hk2,hae,rfl,rfl,hall⟩:=hrel
     obtain ⟨wo,rfl⟩:=aY wr
     have HB:=aI hall
     clear hall
     by_cases hlt2:e < n
     ·have hex:e < s.size:=by omega
      have k2:(0:Int)<=(e:Int):=aa _
      have k3:(e:Int) < (n:Int):=by omega
      rcases tok_cases2 (s[e]'hex) with ⟨ht,q1,q2⟩ | ⟨ht,q1⟩ | ⟨ht,q1,q2⟩
      ·have HT:=aI ht
       clear ht
       go_wp2_with fail
       go_roundg (gk - 1)
       case measure=>omega
       case rel =>
        refine ⟨e+1,by omega,by omega,by go_num,rfl,fun j hj h1 h2=>?_⟩
        rcases aj j e with h' | h'
        ·exact HB.out j hj h1 h'
        ·obtain rfl:j=e:=by omega
         rw [Vm.str_get s j hex];exact HT.out
      ·have HW:=aI (Vm.wordAt_is (l:=s.data.toList) hae (by rw [Vm.strLn];omega) HB.out (.inr ⟨by rw [Vm.strLn];exact hex,by rw [Vm.str_get s e hex];exact ht⟩))
       clear ht
       by_cases hei:e=i
       ·subst hei
        have t9:((e:Int) == (e:Int))=true:=by simp
        have t10:(e == e)=true:=by simp
        have HFIN:=aI (show Vm.scan s.data.toList (n+1) 0=(toks,e) by
         rw [<-HSC.out,HSE.out,HSK.out,HW.out];simp)
        go_wp2_with fail
        go_ret2
        exact scan_end T.out HFIN.out hsn HBD.out hs (by omega)
       ·have t9:((e:Int) == (i:Int))=false:=by rw [beq_eq_false_iff_ne];omega
        have t10:(e == i)=false:=beq_eq_false_iff_ne.2 hei
        have hwl:(Vm.wordAt s.data.toList i).length=e - i:=by rw [HW.out,List.length_take,List.length_drop,Vm.strLn];omega
        have HSC2:=aI (show (toks++[(i,e)]++(Vm.scan s.data.toList f e).1,(Vm.scan s.data.toList f e).2)=Vm.scan s.data.toList (n+1) 0 by
         rw [<-HSC.out,HSE.out,HSK.out,hwl,if_neg (fun h=>by rw [h] at hwl;simp at hwl;omega),show i+(e - i)=e by omega]
         simp)
        have HVS:=aI (tokVals_snoc toks (i,e))
        obtain ⟨na,hna⟩:=aX toks.length
        have HNA:=aI (show (toks++[(i,e)]).length=na+1 by rw [aK,hna];rfl)
        rw [hna] at T htl
        have HBD2:=aI (show ∀ p∈toks++[(i,e)],p.1<=p.2/\p.2<=n from fun p hp=>by
         rcases List.mem_append.1 hp with h | h
         ·exact HBD.out p h
         ·rw [List.mem_singleton.1 h];exact ⟨by show i<=e;omega,by show e<=n;omega⟩)
        clear hwl hna
        go_wp2_with (at_builtin;obtain ⟨hi,hz0,hz1,hz2⟩:=HII.out;refine wpList_append_row (by rfl) _ _ 67 (by rfl) 72 i0 _ 2 16 Tryz.underlying67 hi hz0 hz1 hz2 rfl (by decide) (T.out.below (aP _ _)) (by rfl) _ _ 1 1 [.int .i64 (i:Int),.int .i64 (e:Int)] (by rfl) (reads_blk (Blk.new _ _ _) rfl) (tok_one i e) (by unfold maxLen;omega) (by omega) ?_;intro v5 w5 M5 h5 _;rw [HVS.out,<-HNA.out] at h5;replace T:=aI h5;clear h5 hi hz0 hz1 hz2)
        go_roundg (gq - (e - i))
        case measure=>omega
        case rel=>exact ⟨e,f,_,_,by omega,by first | rfl | go_num,by omega,by omega,by rw [HNA.out];omega,HBD2.out,HSC2.out,T.out⟩
      ·have HW:=aI (Vm.wordAt_is (l:=s.data.toList) hae (by rw [Vm.strLn];omega) HB.out (.inr ⟨by rw [Vm.strLn];exact hex,by rw [Vm.str_get s e hex];exact ht⟩))
       clear ht
       by_cases hei:e=i
       ·subst hei
        have t9:((e:Int) == (e:Int))=true:=by simp
        have t10:(e == e)=true:=by simp
        have HFIN:=aI (show Vm.scan s.data.toList (n+1) 0=(toks,e) by
         rw [<-HSC.out,HSE.out,HSK.out,HW.out];simp)
        go_wp2_with fail
        go_ret2
        exact scan_end T.out HFIN.out hsn HBD.out hs (by omega)
       ·have t9:((e:Int) == (i:Int))=false:=by rw [beq_eq_false_iff_ne];omega
        have t10:(e == i)=false:=beq_eq_false_iff_ne.2 hei
        have hwl:(Vm.wordAt s.data.toList i).length=e - i:=by rw [HW.out,List.length_take,List.length_drop,Vm.strLn];omega
        have HSC2:=aI (show (toks++[(i,e)]++(Vm.scan s.data.toList f e).1,(Vm.scan s.data.toList f e).2)=Vm.scan s.data.toList (n+1) 0 by
         rw [<-HSC.out,HSE.out,HSK.out,hwl,if_neg (fun h=>by rw [h] at hwl;simp at hwl;omega),show i+(e - i)=e by omega]
         simp)
        have HVS:=aI (tokVals_snoc toks (i,e))
        obtain ⟨na,hna⟩:=aX toks.length
        have HNA:=aI (show (toks++[(i,e)]).length=na+1 by rw [aK,hna];rfl)
        rw [hna] at T htl
        have HBD2:=aI (show ∀ p∈toks++[(i,e)],p.1<=p.2/\p.2<=n from fun p hp=>by
         rcases List.mem_append.1 hp with h | h
         ·exact HBD.out p h
         ·rw [List.mem_singleton.1 h];exact ⟨by show i<=e;omega,by show e<=n;omega⟩)
        clear hwl hna
        go_wp2_with (at_builtin;obtain ⟨hi,hz0,hz1,hz2⟩:=HII.out;refine wpList_append_row (by rfl) _ _ 67 (by rfl) 72 i0 _ 2 16 Tryz.underlying67 hi hz0 hz1 hz2 rfl (by decide) (T.out.below (aP _ _)) (by rfl) _ _ 1 1 [.int .i64 (i:Int),.int .i64 (e:Int)] (by rfl) (reads_blk (Blk.new _ _ _) rfl) (tok_one i e) (by unfold maxLen;omega) (by omega) ?_;intro v5 w5 M5 h5 _;rw [HVS.out,<-HNA.out] at h5;replace T:=aI h5;clear h5 hi hz0 hz1 hz2)
        go_roundg (gq - (e - i))
        case measure=>omega
        case rel=>exact ⟨e,f,_,_,by omega,by first | rfl | go_num,by omega,by omega,by rw [HNA.out];omega,HBD2.out,HSC2.out,T.out⟩
     ·have hen:e=n:=by omega
      have HW:=aI (Vm.wordAt_is (l:=s.data.toList) hae (by rw [Vm.strLn];omega) HB.out (.inl (by rw [Vm.strLn];omega)))
      have hexn:¬ (e:Int) < (n:Int):=by omega
      have hen1:n<=e:=by omega
      clear hen
      by_cases hei:e=i
      ·exact absurd hei (by omega)
      ·have t9:((e:Int) == (i:Int))=false:=by rw [beq_eq_false_iff_ne];omega
       have t10:(e == i)=false:=beq_eq_false_iff_ne.2 hei
       have hwl:(Vm.wordAt s.data.toList i).length=e - i:=by rw [HW.out,List.length_take,List.length_drop,Vm.strLn];omega
       have HSC2:=aI (show (toks++[(i,e)]++(Vm.scan s.data.toList f e).1,(Vm.scan s.data.toList f e).2)=Vm.scan s.data.toList (n+1) 0 by
        rw [<-HSC.out,HSE.out,HSK.out,hwl,if_neg (fun h=>by rw [h] at hwl;simp at hwl;omega),show i+(e - i)=e by omega]
        simp)
       have HVS:=aI (tokVals_snoc toks (i,e))
       obtain ⟨na,hna⟩:=aX toks.length
       have HNA:=aI (show (toks++[(i,e)]).length=na+1 by rw [aK,hna];rfl)
       rw [hna] at T htl
       have HBD2:=aI (show ∀ p∈toks++[(i,e)],p.1<=p.2/\p.2<=n from fun p hp=>by
        rcases List.mem_append.1 hp with h | h
        ·exact HBD.out p h
        ·rw [List.mem_singleton.1 h];exact ⟨by show i<=e;omega,by show e<=n;omega⟩)
       clear hwl hna
       go_wp2_with (at_builtin;obtain ⟨hi,hz0,hz1,hz2⟩:=HII.out;refine wpList_append_row (by rfl) _ _ 67 (by rfl) 72 i0 _ 2 16 Tryz.underlying67 hi hz0 hz1 hz2 rfl (by decide) (T.out.below (aP _ _)) (by rfl) _ _ 1 1 [.int .i64 (i:Int),.int .i64 (e:Int)] (by rfl) (reads_blk (Blk.new _ _ _) rfl) (tok_one i e) (by unfold maxLen;omega) (by omega) ?_;intro v5 w5 M5 h5 _;rw [HVS.out,<-HNA.out] at h5;replace T:=aI h5;clear h5 hi hz0 hz1 hz2)
       go_roundg (gq - (e - i))
       case measure=>omega
       case rel=>exact ⟨e,f,_,_,by omega,by first | rfl | go_num,by omega,by omega,by rw [HNA.out];omega,HBD2.out,HSC2.out,T.out⟩
  ·have hii:i=n:=by omega
   have HFIN:=aI (show Vm.scan s.data.toList (n+1) 0=(toks,n) by
    have h:s.data.toList.length=n:=by rw [Vm.strLn,hsn]
    rw [<-HSC.out,hii,<-h,scan_len];simp)
   subst hii
   go_wp2_with fail
   go_ret2
   exact scan_end T.out HFIN.out hsn HBD.out hs (by omega)
theorem tk_at {G:List Nat} {w:World} {A:Option Addr} {toks:List Tk} (h:SlAt G w A (toks.map tokI)) (k:Nat) (hk:k < toks.length):∃ b o,A=some ⟨b,o,none⟩/\b∉G/\w.cell? ⟨b,o+k*2,none⟩=some (.int .i64 (toks[k].1:Int))/\w.cell? ⟨b,o+k*2+1,none⟩=some (.int .i64 (toks[k].2:Int)):=by
 obtain ⟨b,o,us,hA,hg,⟨u1,t1,rfl,⟨rfl,_⟩,⟨rfl,_⟩⟩,hc⟩:=h.get k (by simpa using hk)
 refine ⟨b,o,hA,hg,?_,?_⟩
 ·have:=hc 0 _ rfl;rw [List.getElem_map] at this;exact this
 ·have:=hc 1 _ rfl;rw [List.getElem_map] at this;exact this
namespace Vm
theorem piece_ext (s:ByteArray) (a e:Nat):(s.extract a e).data.toList=piece s.data.toList a e:=by
 rw [Lib.extract_data];unfold piece;rw [List.drop_take]
end Vm
theorem byte_eq {a b:ByteArray} (h:a.data.toList=b.data.toList):a=b:=by rw [str_eq h,<-str_eq rfl]
namespace Sx
def swB (f:Fld):Bool :=
 if Sc.kd f=0 then within (Sc.lo f) (-most) most
 else if Sc.kd f=1 then nm (Sc.of_ f) && span (Sc.lo f) (Sc.hi f) 0 65536
 else if Sc.kd f=2 then span (Sc.lo f) (Sc.hi f) (-most) most
 else if Sc.kd f=3 then pickB (Sc.words f) (Sc.wts f)
 else if Sc.kd f=4 then (em (Sc.of_ f) || nm (Sc.of_ f)) && span (Sc.lo f) (Sc.hi f) (-most) most
 else if Sc.kd f=5 then nm (Sc.of_ f) && span (Sc.lo f) (Sc.hi f) 0 32
 else if Sc.kd f=6 then nm (Sc.of_ f)
 else if Sc.kd f=7 then nm (Sc.of_ f) && (nm (Sc.up f) && span (Sc.lo f) (Sc.hi f) 0 most)
 else if Sc.kd f=8 then nm (Sc.of_ f) && nm (Sc.up f)
 else false
theorem em_is (s:ByteArray):em s=decide (s=⟨#[]⟩):=by
 unfold em
 by_cases h:s=⟨#[]⟩
 ·rw [ac h,h];rfl
 ·rw [ad h]
  refine ad fun hz=>h ?_
  exact byte_eq (by
   have:s.data.toList.length=0:=by rw [Vm.strLn];exact hz
   rw [List.length_eq_zero_iff.1 this])
theorem noW_is (f:Fld):noW f=(decide (Sc.words f=[]) && decide (Sc.wts f=[])):=by
 unfold noW
 rw [show decide ((Sc.words f).length=0)=decide (Sc.words f=[]) from by simp,show decide ((Sc.wts f).length=0)=decide (Sc.wts f=[]) from by simp]
theorem fldB_is (f:Fld):fldB f=(nm (Sc.nm f) && (sameF f (only f) && swB f)):=by
 obtain ⟨n,of_,up,kd,lo,hi,ws,ns⟩:=f
 rw [only_eq]
 unfold fldB sameF swB
 rw [noW_is,em_is,em_is]
 simp only [Sc.nm,Sc.of_,Sc.up,Sc.kd,Sc.lo,Sc.hi,Sc.words,Sc.wts]
 by_cases k0:kd=0
 ·subst k0;apply Bool.eq_iff_iff.2;simp;grind
 ·by_cases k1:kd=1
  ·subst k1;apply Bool.eq_iff_iff.2;simp;grind
  ·by_cases k2:kd=2
   ·subst k2;apply Bool.eq_iff_iff.2;simp;grind
   ·by_cases k3:kd=3
    ·subst k3;apply Bool.eq_iff_iff.2;simp;grind
    ·by_cases k4:kd=4
     ·subst k4;apply Bool.eq_iff_iff.2;simp;grind
     ·by_cases k5:kd=5
      ·subst k5;apply Bool.eq_iff_iff.2;simp;grind
      ·by_cases k6:kd=6
       ·subst k6;apply Bool.eq_iff_iff.2;simp;grind
       ·by_cases k7:kd=7
        ·subst k7;apply Bool.eq_iff_iff.2;simp;grind
        ·by_cases k8:kd=8
         ·subst k8;apply Bool.eq_iff_iff.2;simp;grind
         ·simp [k0,k1,k2,k3,k4,k5,k6,k7,k8]
end Sx
theorem isField_no (f:Fld) (us:List Value) (w:World) (h:Mem.rep [] w f us) (hn:Sx.nm (Sc.nm f)=false):Calls Tryz.prog 113 #[.agg us.toArray] w (BoolP (Sx.fldB f) w):=by
 obtain ⟨A,c,B,d,rfl,s1,s2,a4,a5,a6,a1,a2,a3,b1,b2,e1,e2⟩:=rep_fld h
 have HF:=aI (show Sx.fldB f=false by rw [Sx.fldB_is,hn];rfl)
 have CN:=aI (fun w=>isName_any (Sc.nm f) w a1)
 rw [hn] at CN
 show Calls Tryz.prog 113 #[.agg #[.string (Sc.nm f),.string (Sc.of_ f),.string (Sc.up f),.int .i64 (Sc.kd f),.int .i64 (Sc.lo f),.int .i64 (Sc.hi f),.slice A (Sc.words f).length c,.slice B (Sc.wts f).length d]] w _
 obtain ⟨W1,hW1,HB,hb⟩:=aW w #[.string (Sc.nm f),.string (Sc.of_ f),.string (Sc.up f),.int .i64 (Sc.kd f),.int .i64 (Sc.lo f),.int .i64 (Sc.hi f),.slice A (Sc.words f).length c,.slice B (Sc.wts f).length d] 52
 have c0:=hb.cell 0
 simp at c0
 have HW1:=aI hW1
 clear h s1 s2 a1 a2 a3 a4 a5 a6 b1 b2 e1 e2 hn hb hW1
 go_enter Tryz.func113,Tryz.ntmps113
 go_wp2_with fail
 rw [HW1.out]
 have hcl:=fun d os=>cell_regrown c0 d os
 refine wp_region_quiet_below (by kernel_rfl) (by kernel_rfl) ?_
 repeat (quiet_step ((go_at_call 110;exact Calls.regrown_of (CN.out _))))
 refine wpQuiet_nil ?_
 intro _ hw'
 obtain ⟨⟨dq,osq⟩,rfl⟩:=hw'
 have hb4:=below_regrown W1 dq osq
 clear hcl
 generalize Sort.grow (redrawn W1 dq) osq=w4 at hb4 ⊢
 have HB4:=aI hb4
 clear hb4
 go_wp2_with fail
 go_ret
 exact ⟨by rw [HF.out];rfl,HB.out.trans (HB4.out.mono HB.out.size)⟩
end
end Go.Proofs.YtmplaikgbeeikaaGreatDoor
