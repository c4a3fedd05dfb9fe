/- Parts of the proof, joined: Shelf, Bld, M7, W22, SxL1, M8, SxW1, SxW2, SxW3, SxW4, SxW5. -/
import Derived.Test.YtobcnhmhgoccnaaGreatDoorV8
import Derived.Shelf.Strings.SlTrimAscii
import Derived.Shelf.Strconv.Itoa3
import Derived.Shelf.Strconv.ErrVarAll
import Derived.Shelf.Strconv.ParseUint10At
import Derived.Shelf.Strings.Prefix
import Derived.Shelf.Unicode.Decode
import Derived.Shelf.Unicode.DecodeLast
import Derived.Shelf.Strings.BuilderCap
import Derived.Shelf.Slices.Turned
import Derived.Shelf.Slices.Empties2
import Derived.Shelf.GgClosure.StringsIndexFunc
set_option maxRecDepth 100000
set_option maxHeartbeats 4000000
set_option linter.unusedVariables false
set_option linter.unusedSimpArgs false
set_option linter.unusedSectionVars false
namespace Go.Proofs
open Go.Shelf
def Tryz.lays169_ren:Go.Shelf.Ren:=⟨λ| 169=>89 | n=>n,λ| 70=>119 | 9=>9 | 0=>0 | 72=>121 | 37=>35 | 127=>167 | 3=>3 | 5=>5 | n=>n,λ| n=>n⟩
theorem Tryz.lays169:Go.Proofs.Lays.n169 Tryz.prog Tryz.lays169_ren:={
 mixed:=by kernel_rfl
 f169:=Tryz.func89.trans (congrArg some (by kernel_rfl))
 t0:=Tryz.underlying0
 a0:=Tryz.isAgg0
 z0:=Tryz.sizeOf0
 v0:=Tryz.zeroValue0
 t3:=Tryz.underlying3
 a3:=Tryz.isAgg3
 z3:=Tryz.sizeOf3
 v3:=Tryz.zeroValue3
 t9:=Tryz.underlying9
 a9:=Tryz.isAgg9
 z9:=Tryz.sizeOf9
 v9:=Tryz.zeroValue9
 t37:=Tryz.underlying35
 a37:=Tryz.isAgg35
 z37:=Tryz.sizeOf35
 v37:=Tryz.zeroValue35
 t70:=Tryz.underlying119
 a70:=Tryz.isAgg119
 z70:=Tryz.sizeOf119
 v70:=Tryz.zeroValue119
 t72:=Tryz.underlying121
 a72:=Tryz.isAgg121
 z72:=Tryz.sizeOf121
 v72:=Tryz.zeroValue121
 t127:=Tryz.underlying167
 a127:=Tryz.isAgg167
 z127:=Tryz.sizeOf167
 v127:=Tryz.zeroValue167 }
theorem Tryz.Builder_Extra_169:Builder.Extra Tryz.prog Tryz.lays169_ren:={
 sizeBuilder:=by kernel_rfl
 liesBuilder:=by kernel_rfl
 t5:=Tryz.underlying5
 a5:=Tryz.isAgg5
 z5:=Tryz.sizeOf5
 v5:=Tryz.zeroValue5
 infoByte:=by kernel_rfl
 cellsByte:=by kernel_rfl
 sizeByte:=by kernel_rfl
 neB5:=by decide }
open Go.RowKit in
theorem Tryz.Builder_String_any (B b:Nat) (l:List UInt8) (w:World) (h:Lib.IsBuilder 121 5 B b (Lib.byteCells l) w) (hBw:B<=w.heap.size) :
  Calls Tryz.prog 89 #[.pointer (some ⟨b,0,none⟩)] w λe w'=>e=.returned (.string ⟨l.toArray⟩)/\Below B w w':=Any.Builder_String_any Tryz.lays169 Tryz.Builder_Extra_169 B b l w h hBw
def Tryz.lays160_ren:Go.Shelf.Ren:=⟨λ| 160=>166 | 232=>177 | 231=>176 | 227=>178 | 234=>180 | 233=>179 | 236=>182 | 235=>181 | 228=>191 | 271=>194 | 151=>193 | 197=>192 | 120=>204 | 152=>203 | 260=>202 | 137=>207 | 119=>208 | 224=>209 | 225=>210 | 217=>211 | 266=>212 | n=>n,λ| 9=>9 | 4=>4 | 3=>3 | 5=>5 | 117=>205 | 116=>204 | 0=>0 | 124=>208 | 21=>21 | 105=>220 | 46=>194 | 119=>234 | 139=>237 | 138=>236 | n=>n,λ| 3=>6 | 4=>7 | n=>n⟩
theorem Tryz.lays160:Go.Proofs.Lays.n160 Tryz.prog Tryz.lays160_ren:={
 mixed:=by kernel_rfl
 f119:=Tryz.func208.trans (congrArg some (by kernel_rfl))
 f120:=Tryz.func204.trans (congrArg some (by kernel_rfl))
 f137:=Tryz.func207.trans (congrArg some (by kernel_rfl))
 f151:=Tryz.func193.trans (congrArg some (by kernel_rfl))
 f152:=Tryz.func203.trans (congrArg some (by kernel_rfl))
 f160:=Tryz.func166.trans (congrArg some (by kernel_rfl))
 f197:=Tryz.func192.trans (congrArg some (by kernel_rfl))
 f217:=Tryz.func211.trans (congrArg some (by kernel_rfl))
 f224:=Tryz.func209.trans (congrArg some (by kernel_rfl))
 f225:=Tryz.func210.trans (congrArg some (by kernel_rfl))
 f227:=Tryz.func178.trans (congrArg some (by kernel_rfl))
 f228:=Tryz.func191.trans (congrArg some (by kernel_rfl))
 f231:=Tryz.func176.trans (congrArg some (by kernel_rfl))
 f232:=Tryz.func177.trans (congrArg some (by kernel_rfl))
 f233:=Tryz.func179.trans (congrArg some (by kernel_rfl))
 f234:=Tryz.func180.trans (congrArg some (by kernel_rfl))
 f235:=Tryz.func181.trans (congrArg some (by kernel_rfl))
 f236:=Tryz.func182.trans (congrArg some (by kernel_rfl))
 f260:=Tryz.func202.trans (congrArg some (by kernel_rfl))
 f266:=Tryz.func212.trans (congrArg some (by kernel_rfl))
 f271:=Tryz.func194.trans (congrArg some (by kernel_rfl))
 t0:=Tryz.underlying0
 a0:=Tryz.isAgg0
 z0:=Tryz.sizeOf0
 v0:=Tryz.zeroValue0
 t3:=Tryz.underlying3
 a3:=Tryz.isAgg3
 z3:=Tryz.sizeOf3
 v3:=Tryz.zeroValue3
 t4:=Tryz.underlying4
 a4:=Tryz.isAgg4
 z4:=Tryz.sizeOf4
 v4:=Tryz.zeroValue4
 t5:=Tryz.underlying5
 a5:=Tryz.isAgg5
 z5:=Tryz.sizeOf5
 v5:=Tryz.zeroValue5
 t9:=Tryz.underlying9
 a9:=Tryz.isAgg9
 z9:=Tryz.sizeOf9
 v9:=Tryz.zeroValue9
 t21:=Tryz.underlying21
 a21:=Tryz.isAgg21
 z21:=Tryz.sizeOf21
 v21:=Tryz.zeroValue21
 t46:=Tryz.underlying194
 a46:=Tryz.isAgg194
 z46:=Tryz.sizeOf194
 v46:=Tryz.zeroValue194
 t105:=Tryz.underlying220
 a105:=Tryz.isAgg220
 z105:=Tryz.sizeOf220
 v105:=Tryz.zeroValue220
 t116:=Tryz.underlying204
 a116:=Tryz.isAgg204
 z116:=Tryz.sizeOf204
 t117:=Tryz.underlying205
 a117:=Tryz.isAgg205
 z117:=Tryz.sizeOf205
 v117:=Tryz.zeroValue205
 t119:=Tryz.underlying234
 a119:=Tryz.isAgg234
 z119:=Tryz.sizeOf234
 t124:=Tryz.underlying208
 a124:=Tryz.isAgg208
 z124:=Tryz.sizeOf208
 v124:=Tryz.zeroValue208
 t138:=Tryz.underlying236
 a138:=Tryz.isAgg236
 z138:=Tryz.sizeOf236
 v138:=Tryz.zeroValue236
 t139:=Tryz.underlying237
 a139:=Tryz.isAgg237
 z139:=Tryz.sizeOf237
 v139:=Tryz.zeroValue237
 g3:=by kernel_rfl
 g4:=by kernel_rfl }
def Tryz.laysM171_ren:Go.Shelf.Ren:=⟨λ| 171=>129 | 243=>159 | 246=>169 | 283=>183 | 284=>184 | 285=>185 | 286=>186 | 129=>196 | 317=>195 | 318=>197 | 319=>198 | 320=>199 | 337=>205 | 338=>206 | n=>n,λ| 3=>3 | 9=>9 | 2=>2 | 4=>4 | 171=>209 | 0=>0 | 53=>89 | 37=>35 | 5=>5 | 173=>212 | 212=>224 | 51=>90 | 20=>20 | 213=>225 | 46=>194 | 232=>97 | 233=>92 | n=>n,λ| 17=>5 | 18=>8 | 19=>9 | n=>n⟩
theorem Tryz.laysM171:Go.Proofs.LaysM.n171 Tryz.prog Tryz.laysM171_ren:={
 mixed:=by kernel_rfl
 f129:=Tryz.func196.trans (congrArg some (by kernel_rfl))
 f171:=Tryz.func129.trans (congrArg some (by kernel_rfl))
 f243:=Tryz.func159.trans (congrArg some (by kernel_rfl))
 f246:=Tryz.func169.trans (congrArg some (by kernel_rfl))
 f283:=Tryz.func183.trans (congrArg some (by kernel_rfl))
 f284:=Tryz.func184.trans (congrArg some (by kernel_rfl))
 f285:=Tryz.func185.trans (congrArg some (by kernel_rfl))
 f286:=Tryz.func186.trans (congrArg some (by kernel_rfl))
 f317:=Tryz.func195.trans (congrArg some (by kernel_rfl))
 f318:=Tryz.func197.trans (congrArg some (by kernel_rfl))
 f319:=Tryz.func198.trans (congrArg some (by kernel_rfl))
 f320:=Tryz.func199.trans (congrArg some (by kernel_rfl))
 f337:=Tryz.func205.trans (congrArg some (by kernel_rfl))
 f338:=Tryz.func206.trans (congrArg some (by kernel_rfl))
 t0:=Tryz.underlying0
 a0:=Tryz.isAgg0
 z0:=Tryz.sizeOf0
 v0:=Tryz.zeroValue0
 t2:=Tryz.underlying2
 a2:=Tryz.isAgg2
 z2:=Tryz.sizeOf2
 v2:=Tryz.zeroValue2
 t3:=Tryz.underlying3
 a3:=Tryz.isAgg3
 z3:=Tryz.sizeOf3
 v3:=Tryz.zeroValue3
 t4:=Tryz.underlying4
 a4:=Tryz.isAgg4
 z4:=Tryz.sizeOf4
 v4:=Tryz.zeroValue4
 t5:=Tryz.underlying5
 a5:=Tryz.isAgg5
 z5:=Tryz.sizeOf5
 v5:=Tryz.zeroValue5
 t9:=Tryz.underlying9
 a9:=Tryz.isAgg9
 z9:=Tryz.sizeOf9
 v9:=Tryz.zeroValue9
 t20:=Tryz.underlying20
 a20:=Tryz.isAgg20
 z20:=Tryz.sizeOf20
 v20:=Tryz.zeroValue20
 t37:=Tryz.underlying35
 a37:=Tryz.isAgg35
 z37:=Tryz.sizeOf35
 v37:=Tryz.zeroValue35
 t46:=Tryz.underlying194
 a46:=Tryz.isAgg194
 z46:=Tryz.sizeOf194
 v46:=Tryz.zeroValue194
 t51:=Tryz.underlying90
 a51:=Tryz.isAgg90
 z51:=Tryz.sizeOf90
 v51:=Tryz.zeroValue90
 t53:=Tryz.underlying89
 a53:=Tryz.isAgg89
 z53:=Tryz.sizeOf89
 v53:=Tryz.zeroValue89
 t171:=Tryz.underlying209
 a171:=Tryz.isAgg209
 z171:=Tryz.sizeOf209
 v171:=Tryz.zeroValue209
 t173:=Tryz.underlying212
 a173:=Tryz.isAgg212
 z173:=Tryz.sizeOf212
 v173:=Tryz.zeroValue212
 t212:=Tryz.underlying224
 a212:=Tryz.isAgg224
 z212:=Tryz.sizeOf224
 v212:=Tryz.zeroValue224
 t213:=Tryz.underlying225
 a213:=Tryz.isAgg225
 z213:=Tryz.sizeOf225
 t232:=Tryz.underlying97
 a232:=Tryz.isAgg97
 z232:=Tryz.sizeOf97
 v232:=Tryz.zeroValue97
 t233:=Tryz.underlying92
 a233:=Tryz.isAgg92
 z233:=Tryz.sizeOf92
 v233:=Tryz.zeroValue92
 g17:=by kernel_rfl
 g18:=by kernel_rfl
 g19:=by kernel_rfl
 i0:=by kernel_rfl
 i2:=by kernel_rfl
 i3:=by kernel_rfl
 i4:=by kernel_rfl
 i5:=by kernel_rfl
 i9:=by kernel_rfl
 i20:=by kernel_rfl
 i37:=by kernel_rfl
 i46:=by kernel_rfl
 i51:=by kernel_rfl
 i53:=by kernel_rfl
 i171:=by kernel_rfl
 i173:=by kernel_rfl
 i212:=by kernel_rfl
 i232:=by kernel_rfl
 i233:=by kernel_rfl
 m17:=by kernel_rfl
 m18:=by kernel_rfl
 m19:=by kernel_rfl }
open Go.RowKit Go.Sort Go.Lib in
theorem Tryz.strconv_Itoa (n : Int) (h0 : -9223372036854775808 ≤ n) (h1 : n ≤ 9223372036854775807) (w : World) (htab : Lib.TabIs Tryz.prog w "internal/strconv.uint64pow10" .u64 Lib.pow10Tab) :
  Calls Tryz.prog 129 #[.int .i64 n] w λe w'=>e=.returned (.string ⟨(Lib.itoa n).toArray⟩)/\∃k os,w'=grow (w.drewN k) os:=Any.strconv_Itoa Tryz.laysM171 n h0 h1 w htab
def Tryz.laysC172_ren:Go.Shelf.Ren:=⟨λ| 172=>140 | 244=>163 | 245=>164 | 247=>170 | 279=>171 | 280=>172 | 281=>173 | 282=>174 | 287=>187 | 316=>188 | 171=>129 | 205=>189 | 321=>200 | 322=>201 | 243=>159 | 246=>169 | 283=>183 | 284=>184 | 285=>185 | 286=>186 | 129=>196 | 317=>195 | 318=>197 | 319=>198 | 320=>199 | 337=>205 | 338=>206 | n=>n,λ| 9=>9 | 3=>3 | 75=>123 | 76=>124 | 4=>4 | 5=>5 | 167=>196 | 37=>35 | 0=>0 | 85=>197 | 2=>2 | 168=>199 | 53=>89 | 175=>214 | 46=>194 | 210=>217 | 127=>167 | 145=>231 | 143=>229 | 21=>21 | 171=>209 | 173=>212 | 212=>224 | 51=>90 | 20=>20 | 213=>225 | 232=>97 | 233=>92 | 80=>130 | n=>n,λ| 15=>3 | 16=>4 | 17=>5 | 18=>8 | 19=>9 | n=>n⟩
theorem Tryz.laysC172:Go.Proofs.LaysC.n172 Tryz.prog Tryz.laysC172_ren:={
 mixed:=by kernel_rfl
 f129:=Tryz.func196.trans (congrArg some (by kernel_rfl))
 f171:=Tryz.func129.trans (congrArg some (by kernel_rfl))
 f172:=Tryz.func140.trans (congrArg some (by kernel_rfl))
 f205:=Tryz.func189.trans (congrArg some (by kernel_rfl))
 f243:=Tryz.func159.trans (congrArg some (by kernel_rfl))
 f244:=Tryz.func163.trans (congrArg some (by kernel_rfl))
 f245:=Tryz.func164.trans (congrArg some (by kernel_rfl))
 f246:=Tryz.func169.trans (congrArg some (by kernel_rfl))
 f247:=Tryz.func170.trans (congrArg some (by kernel_rfl))
 f279:=Tryz.func171.trans (congrArg some (by kernel_rfl))
 f280:=Tryz.func172.trans (congrArg some (by kernel_rfl))
 f281:=Tryz.func173.trans (congrArg some (by kernel_rfl))
 f282:=Tryz.func174.trans (congrArg some (by kernel_rfl))
 f283:=Tryz.func183.trans (congrArg some (by kernel_rfl))
 f284:=Tryz.func184.trans (congrArg some (by kernel_rfl))
 f285:=Tryz.func185.trans (congrArg some (by kernel_rfl))
 f286:=Tryz.func186.trans (congrArg some (by kernel_rfl))
 f287:=Tryz.func187.trans (congrArg some (by kernel_rfl))
 f316:=Tryz.func188.trans (congrArg some (by kernel_rfl))
 f317:=Tryz.func195.trans (congrArg some (by kernel_rfl))
 f318:=Tryz.func197.trans (congrArg some (by kernel_rfl))
 f319:=Tryz.func198.trans (congrArg some (by kernel_rfl))
 f320:=Tryz.func199.trans (congrArg some (by kernel_rfl))
 f321:=Tryz.func200.trans (congrArg some (by kernel_rfl))
 f322:=Tryz.func201.trans (congrArg some (by kernel_rfl))
 f337:=Tryz.func205.trans (congrArg some (by kernel_rfl))
 f338:=Tryz.func206.trans (congrArg some (by kernel_rfl))
 t0:=Tryz.underlying0
 a0:=Tryz.isAgg0
 z0:=Tryz.sizeOf0
 v0:=Tryz.zeroValue0
 t2:=Tryz.underlying2
 a2:=Tryz.isAgg2
 z2:=Tryz.sizeOf2
 v2:=Tryz.zeroValue2
 t3:=Tryz.underlying3
 a3:=Tryz.isAgg3
 z3:=Tryz.sizeOf3
 v3:=Tryz.zeroValue3
 t4:=Tryz.underlying4
 a4:=Tryz.isAgg4
 z4:=Tryz.sizeOf4
 v4:=Tryz.zeroValue4
 t5:=Tryz.underlying5
 a5:=Tryz.isAgg5
 z5:=Tryz.sizeOf5
 v5:=Tryz.zeroValue5
 t9:=Tryz.underlying9
 a9:=Tryz.isAgg9
 z9:=Tryz.sizeOf9
 v9:=Tryz.zeroValue9
 t20:=Tryz.underlying20
 a20:=Tryz.isAgg20
 z20:=Tryz.sizeOf20
 v20:=Tryz.zeroValue20
 t21:=Tryz.underlying21
 a21:=Tryz.isAgg21
 z21:=Tryz.sizeOf21
 v21:=Tryz.zeroValue21
 t37:=Tryz.underlying35
 a37:=Tryz.isAgg35
 z37:=Tryz.sizeOf35
 v37:=Tryz.zeroValue35
 t46:=Tryz.underlying194
 a46:=Tryz.isAgg194
 z46:=Tryz.sizeOf194
 v46:=Tryz.zeroValue194
 t51:=Tryz.underlying90
 a51:=Tryz.isAgg90
 z51:=Tryz.sizeOf90
 v51:=Tryz.zeroValue90
 t53:=Tryz.underlying89
 a53:=Tryz.isAgg89
 z53:=Tryz.sizeOf89
 v53:=Tryz.zeroValue89
 t75:=Tryz.underlying123
 a75:=Tryz.isAgg123
 z75:=Tryz.sizeOf123
 v75:=Tryz.zeroValue123
 t76:=Tryz.underlying124
 a76:=Tryz.isAgg124
 z76:=Tryz.sizeOf124
 v76:=Tryz.zeroValue124
 t85:=Tryz.underlying197
 a85:=Tryz.isAgg197
 z85:=Tryz.sizeOf197
 v85:=Tryz.zeroValue197
 t127:=Tryz.underlying167
 a127:=Tryz.isAgg167
 z127:=Tryz.sizeOf167
 v127:=Tryz.zeroValue167
 t143:=Tryz.underlying229
 a143:=Tryz.isAgg229
 z143:=Tryz.sizeOf229
 v143:=Tryz.zeroValue229
 t145:=Tryz.underlying231
 a145:=Tryz.isAgg231
 z145:=Tryz.sizeOf231
 v145:=Tryz.zeroValue231
 t167:=Tryz.underlying196
 a167:=Tryz.isAgg196
 z167:=Tryz.sizeOf196
 v167:=Tryz.zeroValue196
 t168:=Tryz.underlying199
 a168:=Tryz.isAgg199
 z168:=Tryz.sizeOf199
 v168:=Tryz.zeroValue199
 t171:=Tryz.underlying209
 a171:=Tryz.isAgg209
 z171:=Tryz.sizeOf209
 v171:=Tryz.zeroValue209
 t173:=Tryz.underlying212
 a173:=Tryz.isAgg212
 z173:=Tryz.sizeOf212
 v173:=Tryz.zeroValue212
 t175:=Tryz.underlying214
 a175:=Tryz.isAgg214
 z175:=Tryz.sizeOf214
 v175:=Tryz.zeroValue214
 t210:=Tryz.underlying217
 a210:=Tryz.isAgg217
 z210:=Tryz.sizeOf217
 v210:=Tryz.zeroValue217
 t212:=Tryz.underlying224
 a212:=Tryz.isAgg224
 z212:=Tryz.sizeOf224
 v212:=Tryz.zeroValue224
 t213:=Tryz.underlying225
 a213:=Tryz.isAgg225
 z213:=Tryz.sizeOf225
 t232:=Tryz.underlying97
 a232:=Tryz.isAgg97
 z232:=Tryz.sizeOf97
 v232:=Tryz.zeroValue97
 t233:=Tryz.underlying92
 a233:=Tryz.isAgg92
 z233:=Tryz.sizeOf92
 v233:=Tryz.zeroValue92
 g15:=by kernel_rfl
 g16:=by kernel_rfl
 g17:=by kernel_rfl
 g18:=by kernel_rfl
 g19:=by kernel_rfl
 t80:=Tryz.underlying130
 a80:=Tryz.isAgg130
 z80:=Tryz.sizeOf130
 v80:=Tryz.zeroValue130
 i0:=by kernel_rfl
 i2:=by kernel_rfl
 i3:=by kernel_rfl
 i4:=by kernel_rfl
 i5:=by kernel_rfl
 i9:=by kernel_rfl
 i20:=by kernel_rfl
 i21:=by kernel_rfl
 i37:=by kernel_rfl
 i46:=by kernel_rfl
 i51:=by kernel_rfl
 i53:=by kernel_rfl
 i75:=by kernel_rfl
 i76:=by kernel_rfl
 i80:=by kernel_rfl
 i85:=by kernel_rfl
 i127:=by kernel_rfl
 i143:=by kernel_rfl
 i145:=by kernel_rfl
 i167:=by kernel_rfl
 i168:=by kernel_rfl
 i171:=by kernel_rfl
 i173:=by kernel_rfl
 i175:=by kernel_rfl
 i210:=by kernel_rfl
 i212:=by kernel_rfl
 i232:=by kernel_rfl
 i233:=by kernel_rfl
 m15:=by kernel_rfl
 m16:=by kernel_rfl
 m17:=by kernel_rfl
 m18:=by kernel_rfl
 m19:=by kernel_rfl
 c0:=by kernel_rfl
 c2:=by kernel_rfl
 c3:=by kernel_rfl
 c4:=by kernel_rfl
 c5:=by kernel_rfl
 c9:=by kernel_rfl
 c20:=by kernel_rfl
 c21:=by kernel_rfl
 c37:=by kernel_rfl
 c46:=by kernel_rfl
 c51:=by kernel_rfl
 c53:=by kernel_rfl
 c75:=by kernel_rfl
 c76:=by kernel_rfl
 c80:=by kernel_rfl
 c85:=by kernel_rfl
 c127:=by kernel_rfl
 c143:=by kernel_rfl
 c145:=by kernel_rfl
 c167:=by kernel_rfl
 c168:=by kernel_rfl
 c171:=by kernel_rfl
 c173:=by kernel_rfl
 c175:=by kernel_rfl
 c210:=by kernel_rfl
 c212:=by kernel_rfl
 c213:=by kernel_rfl
 c232:=by kernel_rfl
 c233:=by kernel_rfl }
open Go.RowKit in
theorem Tryz.strconv_Atoi_ok (s:ByteArray) (hmax:s.size<=9223372036854775806) (v:Int) (h:Lib.atoiAll s.data.toList=.ok v) (w:World) :
  Calls Tryz.prog 140 #[.string s] w λe w'=>e=.returned (.tuple #[.int .i64 v,.nilIface])/\(w'=w∨∃t,w'=Lib.bytesWorld w 5 t):=Any.strconv_Atoi_ok Tryz.laysC172 s hmax v h w
open Go.RowKit in
theorem Tryz.strconv_Atoi_syntax_var (s : ByteArray) (hlim : s.size ≤ 281474976710656) (h : Lib.atoiAll s.data.toList = .«syntax») (tp : TypeId) (p : Value) (w : World) (hvar : w.var? Tryz.prog "strconv.ErrSyntax" = some #[.iface tp p]) :
  Calls Tryz.prog 140 #[.string s] w λe w'=>∃N,e=.returned (.tuple #[.int .i64 0,.iface 199 (.pointer (some ⟨N,0,none⟩))])/\w.heap.size<=N/\w'.heap[N]?=some (.cells #[.string ⟨#[65,116,111,105]⟩,.string s,.iface tp p] 217 (0,0))/\Below w.heap.size w w':=Any.strconv_Atoi_syntax_var Tryz.laysC172 s hlim h tp p w hvar
open Go.RowKit in
theorem Tryz.strconv_Atoi_range_var (s : ByteArray) (hlim : s.size ≤ 281474976710656) (h : Lib.atoiAll s.data.toList = .range) (tp : TypeId) (p : Value) (w : World) (hvar : w.var? Tryz.prog "strconv.ErrRange" = some #[.iface tp p]) :
  Calls Tryz.prog 140 #[.string s] w λe w'=>∃N,e=.returned (.tuple #[.int .i64 (Lib.atoiSat s.data.toList),.iface 199 (.pointer (some ⟨N,0,none⟩))])/\w.heap.size<=N/\w'.heap[N]?=some (.cells #[.string ⟨#[65,116,111,105]⟩,.string s,.iface tp p] 217 (0,0))/\Below w.heap.size w w':=Any.strconv_Atoi_range_var Tryz.laysC172 s hlim h tp p w hvar
def Tryz.lays101_ren:Go.Shelf.Ren:=⟨λ| 101=>165 | 208=>175 | 206=>190 | n=>n,λ| 9=>9 | 4=>4 | 3=>3 | n=>n,λ| n=>n⟩
theorem Tryz.lays101:Go.Proofs.Lays.n101 Tryz.prog Tryz.lays101_ren:={
 mixed:=by kernel_rfl
 f101:=Tryz.func165.trans (congrArg some (by kernel_rfl))
 f206:=Tryz.func190.trans (congrArg some (by kernel_rfl))
 f208:=Tryz.func175.trans (congrArg some (by kernel_rfl))
 t3:=Tryz.underlying3
 a3:=Tryz.isAgg3
 z3:=Tryz.sizeOf3
 v3:=Tryz.zeroValue3
 t4:=Tryz.underlying4
 a4:=Tryz.isAgg4
 z4:=Tryz.sizeOf4
 v4:=Tryz.zeroValue4
 t9:=Tryz.underlying9
 a9:=Tryz.isAgg9
 z9:=Tryz.sizeOf9
 v9:=Tryz.zeroValue9 }
open Go.RowKit Go.Lib in
theorem Tryz.strings_TrimPrefix (s p:ByteArray) (w:World) :
  Calls Tryz.prog 165 #[.string s,.string p] w λe w'=>e=.returned (.string ⟨(Lib.trimPrefix s.data.toList p.data.toList).toArray⟩)/\w'=w:=Any.strings_TrimPrefix Tryz.lays101 s p w
def Tryz.lays109_ren:Go.Shelf.Ren:=⟨λ| 109=>167 | n=>n,λ| 31=>54 | 9=>9 | 3=>3 | 0=>0 | 4=>4 | n=>n,λ| n=>n⟩
theorem Tryz.lays109:Go.Proofs.Lays.n109 Tryz.prog Tryz.lays109_ren:={
 mixed:=by kernel_rfl
 f109:=Tryz.func167.trans (congrArg some (by kernel_rfl))
 t0:=Tryz.underlying0
 a0:=Tryz.isAgg0
 z0:=Tryz.sizeOf0
 v0:=Tryz.zeroValue0
 t3:=Tryz.underlying3
 a3:=Tryz.isAgg3
 z3:=Tryz.sizeOf3
 v3:=Tryz.zeroValue3
 t4:=Tryz.underlying4
 a4:=Tryz.isAgg4
 z4:=Tryz.sizeOf4
 v4:=Tryz.zeroValue4
 t9:=Tryz.underlying9
 a9:=Tryz.isAgg9
 z9:=Tryz.sizeOf9
 v9:=Tryz.zeroValue9
 t31:=Tryz.underlying54
 a31:=Tryz.isAgg54
 z31:=Tryz.sizeOf54
 v31:=Tryz.zeroValue54 }
open Go.Lib in
theorem Tryz.slices_Index_string (b off n c:Nat) (zs:List ByteArray) (x:ByteArray) (w:World) (hz:n<=zs.length) (hbig:n<=9223372036854775807) (hc:∀j,j < zs.length->w.cell? ⟨b,off+j,none⟩=some (.string (zs.getD j ByteArray.empty))) :
  Calls Tryz.prog 167 #[.slice (some ⟨b,off,none⟩) n c,.string x] w λe w'=>e=.returned (.int .i64 (Lib.idxOfS (zs.take n) x))/\w'=w:=Any.slices_Index_string Tryz.lays109 b off n c zs x w hz hbig hc
def Tryz.lays110_ren:Go.Shelf.Ren:=⟨λ| 110=>146 | 109=>167 | n=>n,λ| 31=>54 | 9=>9 | 4=>4 | 3=>3 | 0=>0 | n=>n,λ| n=>n⟩
theorem Tryz.lays110:Go.Proofs.Lays.n110 Tryz.prog Tryz.lays110_ren:={
 mixed:=by kernel_rfl
 f109:=Tryz.func167.trans (congrArg some (by kernel_rfl))
 f110:=Tryz.func146.trans (congrArg some (by kernel_rfl))
 t0:=Tryz.underlying0
 a0:=Tryz.isAgg0
 z0:=Tryz.sizeOf0
 v0:=Tryz.zeroValue0
 t3:=Tryz.underlying3
 a3:=Tryz.isAgg3
 z3:=Tryz.sizeOf3
 v3:=Tryz.zeroValue3
 t4:=Tryz.underlying4
 a4:=Tryz.isAgg4
 z4:=Tryz.sizeOf4
 v4:=Tryz.zeroValue4
 t9:=Tryz.underlying9
 a9:=Tryz.isAgg9
 z9:=Tryz.sizeOf9
 v9:=Tryz.zeroValue9
 t31:=Tryz.underlying54
 a31:=Tryz.isAgg54
 z31:=Tryz.sizeOf54
 v31:=Tryz.zeroValue54 }
open Go.Lib in
theorem Tryz.slices_Contains_string (b off n c:Nat) (zs:List ByteArray) (x:ByteArray) (w:World) (hz:n<=zs.length) (hbig:n<=9223372036854775807) (hc:∀j,j < zs.length->w.cell? ⟨b,off+j,none⟩=some (.string (zs.getD j ByteArray.empty))) :
  Calls Tryz.prog 146 #[.slice (some ⟨b,off,none⟩) n c,.string x] w λe w'=>e=.returned (.bool (Lib.containsS (zs.take n) x))/\w'=w:=Any.slices_Contains_string Tryz.lays110 b off n c zs x w hz hbig hc
def Tryz.lays111_ren:Go.Shelf.Ren:=⟨λ| 111=>111 | n=>n,λ| 28=>22 | 3=>3 | 4=>4 | 0=>0 | n=>n,λ| n=>n⟩
theorem Tryz.lays111:Go.Proofs.Lays.n111 Tryz.prog Tryz.lays111_ren:={
 mixed:=by kernel_rfl
 f111:=Tryz.func111.trans (congrArg some (by kernel_rfl))
 t0:=Tryz.underlying0
 a0:=Tryz.isAgg0
 z0:=Tryz.sizeOf0
 v0:=Tryz.zeroValue0
 t3:=Tryz.underlying3
 a3:=Tryz.isAgg3
 z3:=Tryz.sizeOf3
 v3:=Tryz.zeroValue3
 t4:=Tryz.underlying4
 a4:=Tryz.isAgg4
 z4:=Tryz.sizeOf4
 v4:=Tryz.zeroValue4
 t28:=Tryz.underlying22
 a28:=Tryz.isAgg22
 z28:=Tryz.sizeOf22
 v28:=Tryz.zeroValue22 }
open Go.RowKit Go.Lib in
theorem Tryz.slices_Equal_int (b1 o1 n c b2 o2 m d:Nat) (xs ys:List Int) (w:World) (hx:n<=xs.length) (hy:m<=ys.length) (hbig:n<=9223372036854775807) (hbig2:m<=9223372036854775807) (hc1:∀j,j < xs.length->w.cell? ⟨b1,o1+j,none⟩=some (.int .i64 (xs.getD j 0))) (hc2:∀j,j < ys.length->w.cell? ⟨b2,o2+j,none⟩=some (.int .i64 (ys.getD j 0))) :
  Calls Tryz.prog 111 #[.slice (some ⟨b1,o1,none⟩) n c,.slice (some ⟨b2,o2,none⟩) m d] w λe w'=>e=.returned (.bool (xs.take n == ys.take m))/\∃q,w'=w.drewN q:=Any.slices_Equal_int Tryz.lays111 b1 o1 n c b2 o2 m d xs ys w hx hy hbig hbig2 hc1 hc2
open Go.RowKit Go.Lib in
theorem Tryz.slices_Equal_int_empty (a1 a2:Option Addr) (c m d:Nat) (w:World) (hbig2:m<=9223372036854775807) :
  Calls Tryz.prog 111 #[.slice a1 0 c,.slice a2 m d] w λe w'=>e=.returned (.bool (decide (m=0)))/\w'=w:=Any.slices_Equal_int_empty Tryz.lays111 a1 a2 c m d w hbig2
def Tryz.lays193_ren:Go.Shelf.Ren:=⟨λ| 193=>65 | n=>n,λ| 31=>54 | 9=>9 | 4=>4 | 3=>3 | 0=>0 | n=>n,λ| n=>n⟩
theorem Tryz.lays193:Go.Proofs.Lays.n193 Tryz.prog Tryz.lays193_ren:={
 mixed:=by kernel_rfl
 f193:=Tryz.func65.trans (congrArg some (by kernel_rfl))
 t0:=Tryz.underlying0
 a0:=Tryz.isAgg0
 z0:=Tryz.sizeOf0
 v0:=Tryz.zeroValue0
 t3:=Tryz.underlying3
 a3:=Tryz.isAgg3
 z3:=Tryz.sizeOf3
 v3:=Tryz.zeroValue3
 t4:=Tryz.underlying4
 a4:=Tryz.isAgg4
 z4:=Tryz.sizeOf4
 v4:=Tryz.zeroValue4
 t9:=Tryz.underlying9
 a9:=Tryz.isAgg9
 z9:=Tryz.sizeOf9
 v9:=Tryz.zeroValue9
 t31:=Tryz.underlying54
 a31:=Tryz.isAgg54
 z31:=Tryz.sizeOf54
 v31:=Tryz.zeroValue54 }
open Go.RowKit Go.Lib in
theorem Tryz.slices_Equal_string (b1 o1 n c b2 o2 m d:Nat) (xs ys:List ByteArray) (w:World) (hx:n<=xs.length) (hy:m<=ys.length) (hbig:n<=9223372036854775807) (hbig2:m<=9223372036854775807) (hc1:∀j,j < xs.length->w.cell? ⟨b1,o1+j,none⟩=some (.string (xs.getD j ByteArray.empty))) (hc2:∀j,j < ys.length->w.cell? ⟨b2,o2+j,none⟩=some (.string (ys.getD j ByteArray.empty))) :
  Calls Tryz.prog 65 #[.slice (some ⟨b1,o1,none⟩) n c,.slice (some ⟨b2,o2,none⟩) m d] w λe w'=>e=.returned (.bool (decide (xs.take n=ys.take m)))/\∃q,w'=w.drewN q:=Any.slices_Equal_string Tryz.lays193 b1 o1 n c b2 o2 m d xs ys w hx hy hbig hbig2 hc1 hc2
open Go.RowKit Go.Lib in
theorem Tryz.slices_Equal_string_empty (a1 a2:Option Addr) (c m d:Nat) (w:World) (hbig2:m<=9223372036854775807) :
  Calls Tryz.prog 65 #[.slice a1 0 c,.slice a2 m d] w λe w'=>e=.returned (.bool (decide (m=0)))/\w'=w:=Any.slices_Equal_string_empty Tryz.lays193 a1 a2 c m d w hbig2
open Go.RowKit Go.Lib in
theorem Tryz.slices_Equal_int_lens (a1 a2:Option Addr) (n c m d:Nat) (w:World) (hnm:n≠m) :
  Calls Tryz.prog 111 #[.slice a1 n c,.slice a2 m d] w λe w'=>e=.returned (.bool false)/\w'=w:=Any.slices_Equal_int_lens Tryz.lays111 a1 a2 n c m d w hnm
open Go.RowKit Go.Lib in
theorem Tryz.slices_Equal_string_lens (a1 a2:Option Addr) (n c m d:Nat) (w:World) (hnm:n≠m) :
  Calls Tryz.prog 65 #[.slice a1 n c,.slice a2 m d] w λe w'=>e=.returned (.bool false)/\w'=w:=Any.slices_Equal_string_lens Tryz.lays193 a1 a2 n c m d w hnm
end Go.Proofs
namespace Go.Proofs.YtobcnhmhgoccnaaGreatDoor
open Go Go.RowKit
section
theorem append_string_at {P:Program} (w:World) (base:Nat) (t u ty e:TypeId) (i:TypeInfo) (ht:P.underlying t=some (.slice e)) (hu:P.underlying u=some .string) (hi:P.info? e=some i) (hz:i.zero=some (.int .u8 0)) (hsize:i.size=1) (hby:i.bytes=1)
  (v:Value) (n:Nat) (xs:List Value) (hown:w.ownsRow base e 1 v n xs) (s:ByteArray) (h47:n+s.size<=140737488355328) (v':Value) (w':World) (hrun:(Builtin.append_ #[t,u] ty #[v,.string s]).run P w=.ok v' w'):v'.ownBlock=v.ownBlock∨v'.ownBlock=some w.heap.size:=by
 rcases hown.2 with ⟨rfl,rfl⟩ | ⟨g,cap,cur,rfl,hbg,hg,hnc,hcm,hcs,htk⟩
 .by_cases hs:s.size=0
  .have hf:=Lib.run_firstCells_string (P:=P) w 1 s
   rw [hs] at hf
   have h2:(Builtin.append_ #[t,u] ty #[.slice none 0 0,.string s]).run P w=.ok (.slice none 0 0) w:=by
    simp [Builtin.append_,run_underlying ht,run_underlying hu,sizeOf,typeInfo,hi,hsize,Builtin.lenOf,hs,hf]
   rw [h2] at hrun
   injection hrun with h3 h4
   left;rw [<-h3]
  .have h2:=run_append_nil_string (P:=P) w t u ty e i (.int .u8 0) ht hu hi hz s (by omega) (by omega) (by rw [hby];omega)
   rw [h2] at hrun
   injection hrun with h3 h4
   right;rw [<-h3];rfl
 .by_cases hroom:n+s.size<=cap
  .have h2:=Lib.run_append_room_string (P:=P) w t u ty e i ht hu hi hsize g n cap cur hg s hroom (by omega)
   rw [h2] at hrun
   injection hrun with h3 h4
   left;rw [<-h3];rfl
  .have hx:xs.length=n:=by have:=hown.1;omega
   have h2:=Lib.run_append_grow_string (P:=P) w t u ty e i (.int .u8 0) ht hu hi hz ⟨g,0,none⟩ n cap xs (by rw [hsize];omega) (hown.cells (g:=g) rfl) s (by omega) (by omega) (by rw [hby];exact growslice_fits (by omega) (by omega))
   rw [h2] at hrun
   injection hrun with h3 h4
   right;rw [<-h3];rfl
theorem wpList_append_str {P:Program} {ops:Array Oper} {rest:List Oper} {o:Oper} {a:Act} {Q:Exit->Act->World->Prop} (hgd:o.guard=none) (sl x:Operand) (t u:TypeId)
  (ho:o.op=.call { callee:=.builtin .append,args:=#[sl,x],argTypes:=#[t,u] }) (e:TypeId) (i:TypeInfo) (ht:P.underlying t=some (.slice e)) (hu:P.underlying u=some .string) (hi:P.info? e=some i) (hz:i.zero=some (.int .u8 0)) (hsize:i.size=1) (hby:i.bytes=1)
  {w W:World} {G M:List Nat} {bx:List Box} {L:List (List Nat->World->Prop)} {v:Value} {n:Nat} {xs:List Value} (H:HRow w G M bx L e 1 v n xs W) (hs:a.eval sl=v) (s:ByteArray) (hx:a.eval x=.string s) (h47:n+s.size<=140737488355328)
  (h:∀v' W' M',HRow w G M' bx L e 1 v' (n+s.size) (xs++Lib.strCells s) W'->(∀g∈M,g∈M')->wpList P ops Q rest (a.put o.dst v') W'):wpList P ops Q (o::rest) a W:=by
 obtain ⟨v',W',hr,h2,h3,_⟩:=Lib.run_append_own_string (P:=P) W w.heap.size t u o.type e i ht hu hi hz hsize hby v n xs H.own s (by unfold maxLen;omega) h47 H.h.bl.size
 have h4:=append_string_at (P:=P) W w.heap.size t u o.type e i ht hu hi hz hsize hby v n xs H.own s h47 v' W' hr
 obtain ⟨M',k1,k2,k3⟩:=H.h.grown H.ok h3 h4 h2
 refine wpList_plain hgd λK hK=>?_
 unfold Oper.wp execOp
 simp only [ho,resolve,invoke,builtin,Sem.run_bind,Sem.run_pure,Result.andThen_ok,List.map_toArray,List.map_cons,List.map_nil,hs,hx,hr]
 exact hK _ _ (h v' W' M' ⟨k1,k2,h2⟩ k3)
structure Bld (w:World) (G M:List Nat) (bx:List Box) (L:List (List Nat->World->Prop)) (b:Nat) (l:List UInt8) (W:World):Prop where
 it:∃p v,(p=.pointer none∨p=.pointer (some ⟨b,0,none⟩))/\HRow w G M ((b,121,#[p,v])::bx) L 5 1 v l.length (byteVals l) W
theorem infoBld:(Tryz.prog.info? 121).map (·.size)=some 2:=by kernel_rfl
theorem liesBld:liesAt Tryz.prog Tryz.prog.depth 121 (2 / Tryz.prog.cellsOf 121) 0 121 1=true:=by kernel_rfl
theorem copyCheck_fresh (b:Nat) (v:Value) (w:World) (hb:Blk w b 121 #[.pointer none,v]):Calls Tryz.prog 127 #[.pointer (some ⟨b,0,none⟩)] w λe w'=>e=.returned (.tuple #[])/\w'=w.setCell ⟨b,0,none⟩ (.pointer (some ⟨b,0,none⟩)):=by
 obtain ⟨j,hj,hjs⟩:=Option.map_eq_some_iff.1 infoBld
 have h0:w.cell? ⟨b,0,none⟩=some (.pointer none):=hb.cell 0
 have hsh:w.shape? b=some (121,2):=by unfold World.shape?;rw [show w.heap[b]?=_ from hb];rfl
 have hfz:=hb.frozen 0
 have HL:=aI liesBld
 clear hb
 go_enter Tryz.func127,Tryz.ntmps127
 go_wp2
 rw [Lib.run_to_unsafe w ⟨b,0,none⟩ Tryz.underlying119 Tryz.underlying187 hj (by rw [hjs];decide) hsh (Nat.zero_lt_succ 1)]
 simp only [Result.andThen]
 rw [Oper.upon_value]
 go_wp2
 rw [run_callFunc_extern Tryz.func158 (by kernel_rfl) (by kernel_rfl) (by kernel_rfl) (e:=Extern.AbiNoEscape.same) (by kernel_rfl)]
 rw [Lib.run_noEscape]
 simp only [Result.andThen]
 rw [Oper.upon_value]
 go_wp2
 rw [Lib.run_from_unsafe w ⟨b,0,none⟩ Tryz.underlying187 Tryz.underlying119 hj hsh HL.out]
 simp only [Result.andThen]
 rw [Oper.upon_value]
 go_wp2
 go_end0
 exact ⟨rfl,rfl⟩
theorem copyCheck_used (b:Nat) (v:Value) (w:World) (hb:Blk w b 121 #[.pointer (some ⟨b,0,none⟩),v]):Calls Tryz.prog 127 #[.pointer (some ⟨b,0,none⟩)] w λe w'=>e=.returned (.tuple #[])/\w'=w:=by
 obtain ⟨j,hj,_⟩:=Option.map_eq_some_iff.1 infoBld
 have h0:w.cell? ⟨b,0,none⟩=some (.pointer (some ⟨b,0,none⟩)):=hb.cell 0
 clear hb
 go_enter Tryz.func127,Tryz.ntmps127
 go_wp2
 rw [Lib.run_neq_ptr_same w _ Tryz.underlying119 hj]
 go_wp2
 go_end0
 exact ⟨rfl,rfl⟩
theorem copyCheck_any {w W:World} {G M:List Nat} {bx:List Box} {L:List (List Nat->World->Prop)} {b:Nat} {l:List UInt8} (H:Bld w G M bx L b l W):Calls Tryz.prog 127 #[.pointer (some ⟨b,0,none⟩)] W λe W'=>e=.returned (.tuple #[]) /\
  ∃v,HRow w G M ((b,121,#[.pointer (some ⟨b,0,none⟩),v])::bx) L 5 1 v l.length (byteVals l) W':=by
 obtain ⟨p,v,hp,h⟩:=H.it
 rcases hp with rfl | rfl
 .refine (copyCheck_fresh b v W (h.h.box (.head _))).mono ?_
  rintro e W' ⟨rfl,rfl⟩
  exact ⟨rfl,v,h.set_ (bx1:=[]) 0 _⟩
 .refine (copyCheck_used b v W (h.h.box (.head _))).mono ?_
  rintro e W' ⟨rfl,rfl⟩
  exact ⟨rfl,v,h⟩
def BldP (w:World) (G M:List Nat) (bx:List Box) (L:List (List Nat->World->Prop)) (b:Nat) (l:List UInt8) (r:Value) (e:Ending) (W:World):Prop:=e=.returned r/\∃M',Bld w G M' bx L b l W/\∀g∈M,g∈M'
theorem strCells_is (s:ByteArray):Lib.strCells s=byteVals s.data.toList:=rfl
theorem bcells {w:World} {g:Nat} {t:TypeId} {a b:Value} (h:Blk w g t #[a,b]):w.cell? ⟨g,0,none⟩=some a/\w.cell? ⟨g,1,none⟩=some b/\w.frozen? ⟨g,0,none⟩=false/\w.frozen? ⟨g,1,none⟩=false:=⟨h.cell 0,h.cell 1,h.frozen 0,h.frozen 1⟩
theorem writeString_any {w W:World} {G M:List Nat} {bx:List Box} {L:List (List Nat->World->Prop)} {b:Nat} {l:List UInt8} (s:ByteArray) (H:Bld w G M bx L b l W) (h47:l.length+s.size<=140737488355328) :
  Calls Tryz.prog 85 #[.pointer (some ⟨b,0,none⟩),.string s] W (BldP w G M bx L b (l++s.data.toList) (.tuple #[.int .i64 s.size,.nilIface])):=by
 obtain ⟨i0,hi,hz0,hz1,hz2⟩:=zq infoU8
 have HII:=aI (show _/\_/\_/\_ from ⟨hi,hz0,hz1,hz2⟩)
 have CC:=aI (copyCheck_any H)
 have HL:=aI (show l.length+s.size=(l++s.data.toList).length by simp)
 have HB:=aI (show byteVals l++Lib.strCells s=byteVals (l++s.data.toList) by rw [strCells_is,<-byteVals_append])
 obtain ⟨n,hn⟩:=aX l.length
 rw [hn] at CC HL h47
 generalize l++s.data.toList=l' at *
 clear H hi hz0 hz1 hz2 hn
 go_enter Tryz.func85,Tryz.ntmps85
 go_wp2_with (first | (go_at_call 127;(with_reducible refine CC.out.mono ?_);rintro e w1 ⟨rfl,v,hr⟩;have T:=aI hr;obtain ⟨c0,c1,f0,f1⟩:=bcells (T.out.h.box (.head _));clear hr) | (at_builtin;obtain ⟨hi,hz0,hz1,hz2⟩:=HII.out;refine wpList_append_str (by rfl) _ _ 35 9 (by rfl) 5 i0 Tryz.underlying35 Tryz.underlying9 hi hz0 hz1 hz2 T.out (by rfl) s (by rfl) h47 ?_;intro v' w' M' h' hM;obtain ⟨A',c',rfl⟩:=zP h'.own;rw [HB.out,HL.out] at h';replace T:=aI h';clear h' hi hz0 hz1 hz2 c0 c1 f0 f1;obtain ⟨c0,c1,f0,f1⟩:=bcells (T.out.h.box (.head _));have HM:=aI hM;clear hM))
 go_ret2
 rw [HL.out]
 exact ⟨rfl,_,⟨⟨_,_,.inr rfl,T.out.set_ (bx1:=[]) 1 _⟩⟩,HM.out⟩
theorem writeByte_any {w W:World} {G M:List Nat} {bx:List Box} {L:List (List Nat->World->Prop)} {b:Nat} {l:List UInt8} (c:UInt8) (H:Bld w G M bx L b l W) (h47:l.length+1<=140737488355328) :
  Calls Tryz.prog 128 #[.pointer (some ⟨b,0,none⟩),.int .u8 c.toNat] W (BldP w G M bx L b (l++[c]) .nilIface):=by
 obtain ⟨i0,hi,hz0,hz1,hz2⟩:=zq infoU8
 have HII:=aI (show _/\_/\_/\_ from ⟨hi,hz0,hz1,hz2⟩)
 have CC:=aI (copyCheck_any H)
 have HL:=aI (show l.length+1=(l++[c]).length by simp)
 have HB:=aI (byteVals_snoc l c)
 obtain ⟨n,hn⟩:=aX l.length
 rw [hn] at CC HL h47
 generalize l++[c]=l' at *
 clear H hi hz0 hz1 hz2 hn
 go_enter Tryz.func128,Tryz.ntmps128
 go_wp2_with (first | (go_at_call 127;(with_reducible refine CC.out.mono ?_);rintro e w1 ⟨rfl,v,hr⟩;have T:=aI hr;obtain ⟨c0,c1,f0,f1⟩:=bcells (T.out.h.box (.head _));clear hr) | (at_builtin;obtain ⟨hi,hz0,hz1,hz2⟩:=HII.out;refine wpList_append_row (by rfl) _ _ 35 (by rfl) 5 i0 _ 1 1 Tryz.underlying35 hi hz0 hz1 hz2 rfl (by decide) (T.out.below (aP _ _)) (by rfl) _ _ 1 1 [.int .u8 c.toNat] (by rfl) (reads_blk (zj _ _ _) rfl) (byte_one c) (by unfold maxLen;omega) (by omega) ?_;intro v' w' M' h' hM;obtain ⟨A',c',rfl⟩:=zP h'.own;rw [HB.out,HL.out] at h';replace T:=aI h';clear h' hi hz0 hz1 hz2 c0 c1 f0 f1;obtain ⟨c0,c1,f0,f1⟩:=bcells (T.out.h.box (.head _));have HM:=aI hM;clear hM))
 go_ret
 rw [HL.out]
 exact ⟨rfl,_,⟨⟨_,_,.inr rfl,T.out.set_ (bx1:=[]) 1 _⟩⟩,HM.out⟩
theorem bldString_any {w W:World} {G M:List Nat} {bx:List Box} {L:List (List Nat->World->Prop)} {b:Nat} {l:List UInt8} (H:Bld w G M bx L b l W) :
  Calls Tryz.prog 89 #[.pointer (some ⟨b,0,none⟩)] W λe W'=>e=.returned (.string ⟨l.toArray⟩)/\Below w.heap.size W W':=by
 obtain ⟨p,v,hp,h⟩:=H.it
 have hb:=h.h.bs _ (.head _)
 have hAt:Lib.BuilderAt 121 5 w.heap.size b p (byteVals l) W:=⟨hb.2.1,v,hb.2.2,by rw [byteVals_length];exact h.own,λhe=>(h.ok b he).2.2 _ (.head _) rfl⟩
 exact Tryz.Builder_String_any w.heap.size b l W (by rcases hp with rfl | rfl <;> first | exact .inl hAt | exact .inr hAt) h.h.bl.size
theorem Bld.new {w W:World} {G M:List Nat} {bx:List Box} {L:List (List Nat->World->Prop)} (h:Held w G M bx L W):Bld w G (W.heap.size::M) bx L W.heap.size [] (W.alloc (.cells #[.pointer none,.slice none 0 0] 121)) :=
 ⟨⟨_,_,.inl rfl,HRow.start (h.new _ _ rfl)⟩⟩
section
variable {w W W':World} {G M:List Nat} {bx:List Box} {L:List (List Nat->World->Prop)} {b:Nat} {l:List UInt8}
theorem Held.perm {bx':List Box} (h:Held w G M bx L W) (hp:bx.Perm bx'):Held w G M bx' L W:=⟨h.bl,h.mb,h.gm,λx hx=>h.bs x (hp.mem_iff.2 hx),(hp.map _).nodup_iff.1 h.nd,h.all⟩
theorem HRow.perm {bx':List Box} {e:TypeId} {size n:Nat} {v:Value} {xs:List Value} (h:HRow w G M bx L e size v n xs W) (hp:bx.Perm bx'):HRow w G M bx' L e size v n xs W:=⟨h.h.perm hp,h.ok.sub λ_x hx=>hp.mem_iff.2 hx,h.own⟩
theorem Held.adopt {g:Nat} {t:TypeId} {cs:Array Value} (h:Held w G M bx L W) (hb:Below W.heap.size W W') (hg:W.heap.size<=g) (hB:Blk W' g t cs):Held w G (g::M) ((g,t,cs)::bx) L W':=by
 have h':=h.below hb
 refine ⟨h'.bl,λk hk=>?_,λk hk=>.tail _ (h.gm k hk),λx hx=>?_,?_,λP hP=>⟨(h.all P hP).1,?_⟩⟩
 .rcases aL hk with rfl | hk
  .exact hB.lt
  .exact h'.mb k hk
 .rcases aL hx with rfl | hx
  .exact ⟨.head _,ah h.bl.size hg,hB⟩
  .exact ⟨.tail _ (h'.bs x hx).1,(h'.bs x hx).2⟩
 .rw [List.map_cons,List.nodup_cons]
  refine ⟨λhm=>?_,h.nd⟩
  obtain ⟨x,hx,he⟩:=List.mem_map.1 hm
  have:=(h.bs x hx).2.2.lt
  simp only at he
  omega
 .refine (h.all P hP).1.1 _ _ _ ((h.all P hP).1.2 M _ _ (h.all P hP).2 λk hk=>?_) (za hb)
  rcases aL hk with rfl | hk
  .exact .inr hg
  .exact .inl hk
theorem HRow.adopt {g:Nat} {t:TypeId} {cs:Array Value} {e:TypeId} {size n:Nat} {v:Value} {xs:List Value} (h:HRow w G M bx L e size v n xs W) (hb:Below W.heap.size W W') (hg:W.heap.size<=g) (hB:Blk W' g t cs):HRow w G (g::M) ((g,t,cs)::bx) L e size v n xs W':=by
 refine ⟨h.h.adopt hb hg hB,λk hk=>⟨.tail _ (h.ok k hk).1,(h.ok k hk).2.1,λx hx=>?_⟩,owns_below h.own hb⟩
 rcases aL hx with rfl | hx
 .intro he
  rcases h.own.2 with ⟨rfl,_⟩ | ⟨g',cap,cur,rfl,_,hh,_⟩
  .simp [Value.ownBlock] at hk
  .simp only [Value.ownBlock,Option.some.injEq] at hk
   subst hk
   simp only at he
   rw [zV (by omega)] at hh;cases hh
 .exact (h.ok k hk).2.2 x hx
theorem Bld.below (h:Bld w G M bx L b l W) (hb:Below W.heap.size W W'):Bld w G M bx L b l W':=by
 obtain ⟨p,v,hp,h⟩:=h.it
 exact ⟨⟨p,v,hp,h.below hb⟩⟩
theorem Bld.adopt {g:Nat} {t:TypeId} {cs:Array Value} (h:Bld w G M bx L b l W) (hb:Below W.heap.size W W') (hg:W.heap.size<=g) (hB:Blk W' g t cs):Bld w G (g::M) ((g,t,cs)::bx) L b l W':=by
 obtain ⟨p,v,hp,h⟩:=h.it
 exact ⟨⟨p,v,hp,(h.adopt hb hg hB).perm (.swap _ _ _)⟩⟩
theorem Bld.newBox (h:Bld w G M bx L b l W) (cs:Array Value) (t:TypeId) {N:Nat} (hN:W.heap.size=N):Bld w G (N::M) ((N,t,cs)::bx) L b l (W.alloc (.cells cs t)) :=
 h.adopt (aP _ _) (Nat.le_of_eq hN) (by subst hN;exact zj _ _ _)
theorem Bld.box {x:Box} (h:Bld w G M bx L b l W) (hx:x∈bx):Blk W x.1 x.2.1 x.2.2:=by
 obtain ⟨p,v,hp,h⟩:=h.it
 exact h.h.box (.tail _ hx)
theorem Bld.fact {P:List Nat->World->Prop} (h:Bld w G M bx L b l W) (hP:P∈L):P M W:=by
 obtain ⟨p,v,hp,h⟩:=h.it
 exact h.h.fact hP
theorem Bld.bl (h:Bld w G M bx L b l W):Below w.heap.size w W:=by
 obtain ⟨p,v,hp,h⟩:=h.it
 exact h.h.bl
theorem Bld.rest {x:Box} (h:Bld w G M (x::bx) L b l W):Bld w G M bx L b l W:=by
 obtain ⟨p,v,hp,h⟩:=h.it
 exact ⟨⟨p,v,hp,(h.perm (.swap x _ _)).rest rfl⟩⟩
end
end
section
theorem digit_byte (q:Nat):((UInt8.ofNat (48+q % 10)).toNat:Int)=48 + ↑q % 10:=by
 rw [UInt8.toNat_ofNat'];omega
def SlB (b:UInt8) (v:Value) (w:World):Prop:=w.ownsRow 0 5 1 v 1 (byteVals [b])
theorem slB_kept (b:UInt8):Kept (SlB b):=λ_ _ _ h hb=>own_below h hb
theorem itoa_nat (u:Nat):Lib.itoa (u:Int)=Lib.decDigits u:=by unfold Lib.itoa;rw [if_neg (by omega)];simp
theorem itoa_neg (u:Nat) (h:0 < u):Lib.itoa (-(u:Int))=45::Lib.decDigits u:=by unfold Lib.itoa;rw [if_pos (by omega)];simp
theorem gPow : Tryz.prog.globalNamed "internal/strconv.uint64pow10" = some 5 := by kernel_rfl
structure TEnv (w:World):Prop where
 tab : Lib.TabIs Tryz.prog w "internal/strconv.uint64pow10" .u64 Lib.pow10Tab
 sz:5 < w.heap.size
theorem TEnv.below {w w':World} {B:Nat} (h:TEnv w) (hb:Below B w w') (hB:5 < B):TEnv w':=by
 refine ⟨?_,by have:=hb.size;have:=h.sz;omega⟩
 have h1:=h.tab
 unfold Lib.TabIs at h1 ⊢
 exact var?_below hb gPow hB h1
theorem below_grow (w:World) (k:Nat) (os:Array Obj):Below w.heap.size w (Go.Sort.grow (w.drewN k) os) :=
 (regrown_of_below (w:=w) (zf _ _)).elim λ_ _=>⟨rfl,rfl,rfl,by simp [Go.Sort.grow,World.drewN],λi hi=>by simp [Go.Sort.grow,World.drewN,Array.getElem?_append,hi]⟩
theorem itoa_any (n:Int) (w:World) (h:inI n) (ht:TEnv w) :
  Calls Tryz.prog 129 #[.int .i64 n] w λe w'=>e=.returned (.string ⟨(Lib.itoa n).toArray⟩)/\Below w.heap.size w w' :=
 (Tryz.strconv_Itoa n h.1 h.2 w ht.tab).mono λe w' ⟨he,k,os,hw⟩=>⟨he,by rw [hw];exact below_grow w k os⟩
theorem strLen (s:ByteArray):s.data.toList.length=s.size:=by simp
theorem av_at {G:List Nat} {w:World} {A:Option Addr} {l:List Sx.Av} (h:SlAt G w A l) (k:Nat) (hk:k < l.length):∃b o v,A=some ⟨b,o,none⟩/\b∉G/\w.cell? ⟨b,o+k,none⟩=some v/\Mem.rep G w l[k] [v]:=by
 obtain ⟨b,o,us,hA,hg,hr,hc⟩:=h.get k hk
 have hlen:=Mem.len hr
 obtain ⟨v,rfl⟩:∃v,us=[v]:=by
  cases us with
  | nil=>cases hlen
  | cons v us=>cases us with
   | nil=>exact ⟨v,rfl⟩
   | cons _ _=>cases hlen
 refine ⟨b,o,v,hA,hg,?_,hr⟩
 have:=hc 0 _ rfl
 rw [show k*Mem.sz Sx.Av+0=k from zO k] at this
 exact this
theorem ta_nn (z:Int) (x:TypeId) (w:World):(Instr.typeAssert (.iface 3 (.int .i64 z)) x 3 true).run Tryz.prog w=.ok (.tuple #[.int .i64 z,.bool true]) w:=by kernel_rfl
theorem ta_sn (b:ByteArray) (x:TypeId) (w:World):(Instr.typeAssert (.iface 9 (.string b)) x 3 true).run Tryz.prog w=.ok (.tuple #[.int .i64 0,.bool false]) w:=by kernel_rfl
theorem ta_ss (b:ByteArray) (x:TypeId) (w:World):(Instr.typeAssert (.iface 9 (.string b)) x 9 true).run Tryz.prog w=.ok (.tuple #[.string b,.bool true]) w:=by kernel_rfl
theorem line_any (ws:ByteArray) (l:List Sx.Av) (A:Option Addr) (c:Nat) (w:World) (hl:SlAt [] w A l) (hok:∀a∈l,a.ok) (hm:l.length<=1000000) (hws:ws.size<=1000) (he:TEnv w) :
  Calls Tryz.prog 86 #[.string ws,.slice A l.length c] w λe w'=>e=.returned (.string ⟨(Sx.lineT (Sx.bs ws::l.map Sx.Av.t)).toArray⟩)/\Below w.heap.size w w':=by
 rw [<-Sx.lineP_end]
 obtain ⟨n,hn⟩:=aX l.length
 have HENV:=aI he
 have HN:=aI hn;have HO:=aI hok
 have HW:=aI (show (Sx.bs ws).length<=1000 by rw [show (Sx.bs ws).length=ws.size from strLen ws];exact hws)
 have T0:=aI ((held0 w [] (λ_ h=>by cases h)).add (keeps_sl A l) hl)
 rw [hn] at hm ⊢
 clear hl hn hok he
 go_enter Tryz.func86,Tryz.ntmps86
 go_upto_region 2 with fail
 have T:=aI (Bld.new T0.out)
 obtain ⟨Nb,hNb⟩:=aX w.heap.size
 rw [hNb] at T ⊢
 clear hNb T0
 go_wp2_with (go_at_call 85;(with_reducible refine (writeString_any ws T.out (by simp;omega)).mono ?_);rintro e w8 ⟨rfl,M8,hT8,_⟩;replace T:=aI hT8;clear hT8)
 rw [zA] at T
 go_loopg [14] n (λr i wr=>∃(k:Nat) (M:List Nat),k+r=n/\i=.int .i64 k/\Bld w [] M [] [λM W=>SlAt M W A l] Nb (Sx.lineP (Sx.bs ws) (l.take k)) wr)
 case atStart=>exact ⟨0,_,by omega,rfl,by rw [List.take_zero,Sx.lineP_nil];exact T.out⟩
 case round =>
  obtain ⟨k,M,hk,rfl,hb⟩:=hrel
  obtain ⟨wo,rfl⟩:=aY wr
  replace T:=aI hb
  clear hb
  have HLP:=aI (show (Sx.lineP (Sx.bs ws) (l.take k)).length<=1000+101*k by
   have h1:=Sx.lineP_le (Sx.bs ws) (l:=l.take k) λa ha=>HO.out a (List.mem_of_mem_take ha)
   have h2:=HW.out
   rw [zI] at h1
   have:min k l.length<=k:=Nat.min_le_left _ _
   omega)
  by_cases hlt:k < n
  .have hkp:k < l.length:=by rw [HN.out];exact hlt
   have k0:(0:Int)<=(k:Int):=aa _
   have k1:(k:Int) < (n:Int):=by omega
   obtain ⟨b,o,v,rfl,_,c0,hr⟩:=av_at (T.out.fact (.head _)) k hkp
   have HS:=aI (show Sx.lineP (Sx.bs ws) (l.take k)++[32]++(l[k]).t=Sx.lineP (Sx.bs ws) (l.take (k+1)) by rw [take_snoc' l k hkp];exact Sx.lineP_snoc _ _ _)
   have ha:=HO.out _ (ze hkp)
   generalize l[k]=a at hr ha HS
   obtain ⟨acc,hacc⟩:=aX (Sx.lineP (Sx.bs ws) (l.take k))
   rw [hacc] at HLP HS T
   have hal:acc.length<=1000+101*k:=HLP.out
   clear hacc HLP
   have CB:=aI (show Calls Tryz.prog 128 #[.pointer (some ⟨Nb,0,none⟩),.int .u8 32] _ _ from writeByte_any 32 T.out (by omega))
   cases a with
   | n z =>
    obtain ⟨hv,hz⟩:=hr
    injection hv with hv _
    subst hv
    have CD:=aI (λW (hb:Below w.heap.size w W)=>itoa_any z W hz (HENV.out.below hb HENV.out.sz))
    have hil:=Dc.itoa_len z ha
    obtain ⟨d,hd⟩:∃d:ByteArray,(⟨(Lib.itoa z).toArray⟩:ByteArray)=d:=⟨_,rfl⟩
    rw [hd] at CD
    have hds:d.size<=11:=by rw [<-hd];exact hil
    have HD:=aI (show d.data.toList=(Sx.Av.n z).t by rw [<-hd];rfl)
    have tn:=ta_nn z
    clear ha hz hil hd
    go_wp2_with (first | (go_at_call 128;(with_reducible refine CB.out.mono ?_);rintro e w8 ⟨rfl,M8,hT8,_⟩;replace T:=aI hT8;clear hT8 c0) | (go_at_call 129;(with_reducible refine (CD.out _ T.out.bl).mono ?_);rintro e w7 ⟨rfl,hb7⟩;replace T:=aI (T.out.below hb7);clear hb7) | (go_at_call 85;(with_reducible refine (writeString_any d T.out (by rw [aK,List.length_singleton];omega)).mono ?_);rintro e w9 ⟨rfl,M9,hT9,_⟩;replace T:=aI hT9;clear hT9))
    rw [HD.out,HS.out] at T
    go_roundg (gk - 1)
    case measure=>omega
    case rel=>exact ⟨k+1,_,by omega,by go_num,T.out⟩
   | s d =>
    obtain ⟨hv,hz⟩:=hr
    injection hv with hv _
    subst hv
    have hds:d.size<=100:=ha
    have HD:=aI (show d.data.toList=(Sx.Av.s d).t from rfl)
    have tn:=ta_sn d
    have ts:=ta_ss d
    clear ha hz
    go_wp2_with (first | (go_at_call 128;(with_reducible refine CB.out.mono ?_);rintro e w8 ⟨rfl,M8,hT8,_⟩;replace T:=aI hT8;clear hT8 c0) | (go_at_call 85;(with_reducible refine (writeString_any d T.out (by rw [aK,List.length_singleton];omega)).mono ?_);rintro e w9 ⟨rfl,M9,hT9,_⟩;replace T:=aI hT9;clear hT9))
    rw [HD.out,HS.out] at T
    go_roundg (gk - 1)
    case measure=>omega
    case rel=>exact ⟨k+1,_,by omega,by go_num,T.out⟩
  .have k1:¬(k:Int) < (n:Int):=by omega
   rw [List.take_of_length_le (by rw [HN.out];omega)] at T
   rw [List.take_of_length_le (by rw [HN.out];omega)] at HLP
   have hsz:(Sx.lineP (Sx.bs ws) l).length<=1000+101*k:=HLP.out
   have CS:=aI (bldString_any T.out)
   obtain ⟨d,hd⟩:∃d:ByteArray,(⟨(Sx.lineP (Sx.bs ws) l).toArray⟩:ByteArray)=d:=⟨_,rfl⟩
   rw [hd] at CS
   have hds:d.size+(⟨#[10]⟩:ByteArray).size<=9223372036854775807:=by
    rw [<-hd];show (Sx.lineP (Sx.bs ws) l).toArray.size+1<=_
    rw [zS];omega
   have HD:=aI hd
   clear hd hsz
   go_wp2_with (go_at_call 89;(with_reducible refine CS.out.mono ?_);rintro e w8 ⟨rfl,hb8⟩;have HB:=aI (T.out.bl.trans hb8);clear hb8)
   go_ret
   exact ⟨by rw [<-HD.out,str_eq (a:=_++_) rfl];simp,HB.out⟩
namespace Vm
theorem tw_is (p:UInt8->Bool) (l:List UInt8):∀(n a e:Nat),e - a=n->a<=e->e<=l.length->(∀j (hj:j < l.length),a<=j->j < e->p l[j]=true)->(e=l.length∨∃h:e < l.length,p l[e]=false)->((l.drop a).takeWhile p).length=e - a
 | 0,a,e,hn,hae,he,_,hs=>by
  obtain rfl:a=e:=by omega
  rcases hs with rfl | ⟨h,hp⟩
  .simp
  .rw [List.drop_eq_getElem_cons h,List.takeWhile_cons,hp];simp
 | n+1,a,e,hn,hae,he,hall,hs=>by
  have ha:a < l.length:=by omega
  rw [List.drop_eq_getElem_cons ha,List.takeWhile_cons,hall a ha (ag _) (by omega),if_pos rfl,zm,tw_is p l n (a+1) e (by omega) (by omega) he (λj hj h1 h2=>hall j hj (by omega) h2) hs]
  omega
theorem skipN_is {l:List UInt8} {a e:Nat} (hae:a<=e) (he:e<=l.length) (h:∀j (hj:j < l.length),a<=j->j < e->isBlank l[j]=true) (hs:e=l.length∨∃h:e < l.length,isBlank l[e]=false):skipN l a=e:=by
 unfold skipN;rw [tw_is isBlank l _ a e rfl hae he h hs];omega
theorem wordAt_is {l:List UInt8} {a e:Nat} (hae:a<=e) (he:e<=l.length) (h:∀j (hj:j < l.length),a<=j->j < e->isTok l[j]=true) (hs:e=l.length∨∃h:e < l.length,isTok l[e]=false):wordAt l a=(l.drop a).take (e - a):=by
 have h1:=tw_is isTok l _ a e rfl hae he h hs
 unfold wordAt
 rw [<-take_takeWhile,h1]
theorem str_get (s:ByteArray) (k:Nat) (_h:k < s.size) (h':k < s.data.toList.length):s.data.toList[k]=s[k]:=by rw [Array.getElem_toList];rfl
theorem strLn (s:ByteArray):s.data.toList.length=s.size:=by simp
theorem blank_cases (c:UInt8):(isBlank c=true/\((c.toNat:Int) == 32)=true)∨(isBlank c=true/\((c.toNat:Int) == 32)=false/\((c.toNat:Int) == 10)=true)∨(isBlank c=false/\((c.toNat:Int) == 32)=false/\((c.toNat:Int) == 10)=false):=by
 have key:∀n:UInt8,((c.toNat:Int) == (n.toNat:Int))=(c == n):=by
  intro n
  rw [Bool.eq_iff_iff,beq_iff_eq,beq_iff_eq]
  exact ⟨λh=>UInt8.toNat_inj.1 (by omega),λh=>by rw [h]⟩
 have k1:=key 32
 have k2:=key 10
 rw [show ((32:UInt8).toNat:Int)=32 from rfl] at k1
 rw [show ((10:UInt8).toNat:Int)=10 from rfl] at k2
 unfold isBlank
 rw [k1,k2]
 cases c == 32 <;> cases c == 10 <;> simp
end Vm
theorem w_drew (w:World) (n:Nat):Below w.heap.size w (w.drewN n):=⟨rfl,rfl,rfl,ag _,λ_ _=>rfl⟩
theorem parse_digs:∀(l:List UInt8) (a:Nat),l.all Dc.isDig=true->(a+1)*10 ^ l.length<=1000000000000000000->Lib.parseUint10 a l=.ok (l.foldl (λa c=>10*a+(c.toNat - 48)) a)
 | [],a,_,_=>rfl
 | c::l,a,h,hb=>by
  rw [List.all_cons,zw] at h
  have hc:=h.1
  simp only [Dc.isDig,zw,zD] at hc
  rw [zm,Nat.pow_succ] at hb
  have hp:1<=10 ^ l.length:=Nat.pow_pos (by omega)
  have hb2:(a+1)*10*10 ^ l.length<=1000000000000000000:=by rw [Nat.mul_assoc,Nat.mul_comm 10];exact hb
  have ha:(a+1)*10<=1000000000000000000:=ah (Nat.le_mul_of_pos_right _ hp) hb2
  unfold Lib.parseUint10
  rw [if_pos ⟨hc.1,hc.2⟩,if_neg (by omega),if_neg (by omega),List.foldl_cons,Nat.mul_comm a 10]
  refine parse_digs l _ h.2 (ah (Nat.mul_le_mul_right _ ?_) hb2)
  omega
theorem trim_is (w:List UInt8):Lib.trimPrefix w [45]=Vm.digs w:=by
 unfold Lib.trimPrefix Lib.hasPrefix Vm.digs Vm.neg
 cases w with
 | nil=>rfl
 | cons c r =>
  simp only [List.isPrefixOf,Bool.and_true,List.head?_cons]
  have e:((45:UInt8) == c)=(some c == some (45:UInt8)):=by rw [Bool.eq_iff_iff];simp;exact eq_comm
  rw [e]
  by_cases hc:(some c == some (45:UInt8))=true <;> simp [hc]
theorem below_atoi {w w':World} {e:TypeId} (h:w'=w∨∃t,w'=Lib.bytesWorld w e t):Below w.heap.size w w':=by
 rcases h with rfl | ⟨t,rfl⟩
 .exact zf _ _
 .exact Lib.below_freeze (((zf _ _).drew).alloc (ag _) _) (p:=⟨w.heap.size,_,none⟩) (ag _) _
theorem strEq_true (s:ByteArray):(s.toList == s.toList)=true:=by simp
theorem strEq_false {s t:ByteArray} (h:s≠t):(s.toList == t.toList)=false:=by
 rw [beq_eq_false_iff_ne];intro e;apply h
 rw [ByteArray.toList_eq,ByteArray.toList_eq] at e
 obtain ⟨⟨a⟩⟩:=s;obtain ⟨⟨b⟩⟩:=t;simpa using e
theorem within_any (n a b:Int) (w:World):Calls Tryz.prog 25 #[.int .i64 n,.int .i64 a,.int .i64 b] w λe w'=>e=.returned (.bool (Sx.within n a b))/\w=w':=by
 unfold Sx.within
 go_enter Tryz.func25,Tryz.ntmps25
 obtain ⟨b1,h1⟩:=aX (decide (a<=n))
 obtain ⟨b2,h2⟩:=aX (decide (n<=b))
 rw [h1,h2]
 cases b1 <;> cases b2 <;> (go_wp2;go_ret;exact ⟨rfl,rfl⟩)
theorem rWithin_any (n a b:Int) (w:World):Calls Tryz.prog 33 #[.int .i64 n,.int .i64 a,.int .i64 b] w λe w'=>e=.returned (.bool (Sx.within n a b))/\w=w':=by
 unfold Sx.within
 go_enter Tryz.func33,Tryz.ntmps33
 obtain ⟨b1,h1⟩:=aX (decide (a<=n))
 obtain ⟨b2,h2⟩:=aX (decide (n<=b))
 rw [h1,h2]
 cases b1 <;> cases b2 <;> (go_wp2;go_ret;exact ⟨rfl,rfl⟩)
theorem span_any (lo hi a b:Int) (w:World):Calls Tryz.prog 75 #[.int .i64 lo,.int .i64 hi,.int .i64 a,.int .i64 b] w λe w'=>e=.returned (.bool (Sx.span lo hi a b))/\w=w':=by
 unfold Sx.span
 go_enter Tryz.func75,Tryz.ntmps75
 obtain ⟨b1,h1⟩:=aX (decide (a<=lo))
 obtain ⟨b2,h2⟩:=aX (decide (lo<=hi))
 obtain ⟨b3,h3⟩:=aX (decide (hi<=b))
 rw [h1,h2,h3]
 cases b1 <;> cases b2 <;> cases b3 <;> (go_wp2;go_ret;exact ⟨rfl,rfl⟩)
theorem rSpan_any (lo hi a b:Int) (w:World):Calls Tryz.prog 91 #[.int .i64 lo,.int .i64 hi,.int .i64 a,.int .i64 b] w λe w'=>e=.returned (.bool (Sx.span lo hi a b))/\w=w':=by
 unfold Sx.span
 go_enter Tryz.func91,Tryz.ntmps91
 obtain ⟨b1,h1⟩:=aX (decide (a<=lo))
 obtain ⟨b2,h2⟩:=aX (decide (lo<=hi))
 obtain ⟨b3,h3⟩:=aX (decide (hi<=b))
 rw [h1,h2,h3]
 cases b1 <;> cases b2 <;> cases b3 <;> (go_wp2;go_ret;exact ⟨rfl,rfl⟩)
theorem le_cast (a b:Nat):decide ((a:Int)<=(b:Int))=decide (a<=b):=by simp
theorem letter_any (c:UInt8) (w:World):Calls Tryz.prog 113 #[.int .u8 c.toNat] w λe w'=>e=.returned (.bool (Sx.letterB c))/\w=w':=by
 unfold Sx.letterB
 go_enter Tryz.func113,Tryz.ntmps113
 obtain ⟨b1,h1⟩:=aX (decide (97<=c.toNat))
 obtain ⟨b2,h2⟩:=aX (decide (c.toNat<=122))
 rw [h1,h2]
 have h1':decide ((97:Int)<=(c.toNat:Int))=b1:=by rw [<-h1];exact le_cast 97 _
 have h2':decide ((c.toNat:Int)<=(122:Int))=b2:=by rw [<-h2];exact le_cast _ 122
 clear h1 h2
 cases b1 <;> cases b2 <;> (go_wp2;go_ret;exact ⟨rfl,rfl⟩)
theorem rLetter_any (c:UInt8) (w:World):Calls Tryz.prog 131 #[.int .u8 c.toNat] w λe w'=>e=.returned (.bool (Sx.letterB c))/\w=w':=by
 unfold Sx.letterB
 go_enter Tryz.func131,Tryz.ntmps131
 obtain ⟨b1,h1⟩:=aX (decide (97<=c.toNat))
 obtain ⟨b2,h2⟩:=aX (decide (c.toNat<=122))
 rw [h1,h2]
 have h1':decide ((97:Int)<=(c.toNat:Int))=b1:=by rw [<-h1];exact le_cast 97 _
 have h2':decide ((c.toNat:Int)<=(122:Int))=b2:=by rw [<-h2];exact le_cast _ 122
 clear h1 h2
 cases b1 <;> cases b2 <;> (go_wp2;go_ret;exact ⟨rfl,rfl⟩)
theorem isDig_is (c:UInt8):Dc.isDig c=(decide (48<=c.toNat) && decide (c.toNat<=57)):=by unfold Dc.isDig;rfl
theorem digit_any (c:UInt8) (w:World):Calls Tryz.prog 116 #[.int .u8 c.toNat] w λe w'=>e=.returned (.bool (Dc.isDig c))/\w=w':=by
 rw [isDig_is]
 go_enter Tryz.func116,Tryz.ntmps116
 obtain ⟨b1,h1⟩:=aX (decide (48<=c.toNat))
 obtain ⟨b2,h2⟩:=aX (decide (c.toNat<=57))
 rw [h1,h2]
 have h1':decide ((48:Int)<=(c.toNat:Int))=b1:=by rw [<-h1];exact le_cast 48 _
 have h2':decide ((c.toNat:Int)<=(57:Int))=b2:=by rw [<-h2];exact le_cast _ 57
 clear h1 h2
 cases b1 <;> cases b2 <;> (go_wp2;go_ret;exact ⟨rfl,rfl⟩)
theorem rDigit_any (c:UInt8) (w:World):Calls Tryz.prog 132 #[.int .u8 c.toNat] w λe w'=>e=.returned (.bool (Dc.isDig c))/\w=w':=by
 rw [isDig_is]
 go_enter Tryz.func132,Tryz.ntmps132
 obtain ⟨b1,h1⟩:=aX (decide (48<=c.toNat))
 obtain ⟨b2,h2⟩:=aX (decide (c.toNat<=57))
 rw [h1,h2]
 have h1':decide ((48:Int)<=(c.toNat:Int))=b1:=by rw [<-h1];exact le_cast 48 _
 have h2':decide ((c.toNat:Int)<=(57:Int))=b2:=by rw [<-h2];exact le_cast _ 57
 clear h1 h2
 cases b1 <;> cases b2 <;> (go_wp2;go_ret;exact ⟨rfl,rfl⟩)
theorem name1_any (c:UInt8) (w:World):Calls Tryz.prog 115 #[.int .u8 c.toNat] w λe w'=>e=.returned (.bool (!Sx.alnumB c))/\w=w':=by
 unfold Sx.alnumB
 have CL:=aI (letter_any c)
 have CD:=aI (digit_any c)
 generalize Sx.letterB c=b1 at *
 generalize Dc.isDig c=b2 at *
 generalize c.toNat=n at *
 go_enter Tryz.func115,Tryz.ntmps115
 cases b1 <;> cases b2 <;> (go_wp2_with (first | (go_at_call 113;(with_reducible refine aS (CL.out _) ?_)) | (go_at_call 116;(with_reducible refine aS (CD.out _) ?_)));go_ret;exact ⟨rfl,rfl⟩)
def PredP (r:Bool) (W:World) (e:Ending) (W':World):Prop:=∃i:Int,e=.returned (.int .i64 i)/\decide (0<=i)=r/\Below W.heap.size W W'
def BoolP (r:Bool) (W:World) (e:Ending) (W':World):Prop:=e=.returned (.bool r)/\Below W.heap.size W W'
theorem all_bad {α:Type} {b:α->Bool} {l:List α} {k:Nat} (hk:k < l.length) (h:b l[k]=false):l.all b=false:=by
 cases hb:l.all b with
 | false=>rfl
 | true=>rw [List.all_eq_true.1 hb _ (ze hk)] at h;cases h
theorem all_good {α:Type} {b:α->Bool} {l:List α} (h:∀k (hk:k < l.length),b l[k]=true):l.all b=true :=
 List.all_eq_true.2 λy hy=>by obtain ⟨k,hk,rfl⟩:=List.getElem_of_mem hy;exact h k hk
theorem idxB_any (l:List UInt8) (A:Option Addr) (c:Nat) (W:World) (hs:SlAt [] W A l) (hm:l.length<=9223372036854775807) :
  Calls Tryz.prog 154 #[.slice A l.length c,.func (.func 115) #[] #[]] W (PredP (!l.all Sx.alnumB) W):=by
 obtain ⟨n,hn⟩:=aX l.length
 have HS:=aI hs
 have HN:=aI hn
 rw [hn]
 rw [hn] at hm
 have HV:=aI name1_any
 clear hs hn
 go_enter Tryz.func154,Tryz.ntmps154
 go_wp2_with fail
 go_loopg [8] n (λr i wr=>∃k:Nat,k+r=n/\i=.int .i64 k/\Below W.heap.size W wr/\∀j (hj:j < l.length),j < k->Sx.alnumB l[j]=true)
 case atStart=>exact ⟨0,by omega,rfl,zf _ _,λ_ _ h=>by omega⟩
 case round =>
  obtain ⟨k,hk,rfl,hb,hall⟩:=hrel
  obtain ⟨wo,rfl⟩:=aY wr
  have HB:=aI hb
  have HA:=aI hall
  clear hb hall
  by_cases hlt:k < n
  .have hkp:k < l.length:=by rw [HN.out];exact hlt
   have k0:(0:Int)<=(k:Int):=aa _
   have k1:(k:Int) < (n:Int):=by omega
   obtain ⟨b,o,rfl,_,c0⟩:=byte_at (HS.out.keep (za HB.out)) k hkp
   have cv:=HV.out l[k]
   obtain ⟨bb,hbb⟩:=aX (Sx.alnumB l[k])
   rw [hbb] at cv
   have CV:=aI cv
   have HBB:=aI hbb
   generalize l[k].toNat=x0 at *
   clear cv hbb
   cases bb
   .have HR:=aI (all_bad (b:=Sx.alnumB) hkp HBB.out)
    go_wp2_with (go_at_call 115;(with_reducible refine aS (CV.out _) ?_))
    go_ret
    exact ⟨_,rfl,by rw [HR.out];simp,HB.out⟩
   .go_wp2_with (go_at_call 115;(with_reducible refine aS (CV.out _) ?_))
    go_roundg (gk - 1)
    case measure=>omega
    case rel =>
     refine ⟨k+1,by omega,by go_num,HB.out,λq hq hlt=>?_⟩
     rcases aj q k with h' | h'
     .exact HA.out q hq h'
     .obtain rfl:q=k:=by omega
      exact HBB.out
  .have HR:=aI (all_good (b:=Sx.alnumB) λq hq=>HA.out q hq (by rw [HN.out] at hq;omega))
   have k1:¬(k:Int) < (n:Int):=by omega
   go_wp2_with fail
   go_ret
   exact ⟨_,rfl,by rw [HR.out];rfl,HB.out⟩
theorem conB_any (l:List UInt8) (A:Option Addr) (c:Nat) (W:World) (hs:SlAt [] W A l) (hm:l.length<=9223372036854775807) :
  Calls Tryz.prog 114 #[.slice A l.length c,.func (.func 115) #[] #[]] W (BoolP (!l.all Sx.alnumB) W):=by
 have CI:=aI (idxB_any l A c W hs hm)
 obtain ⟨n,hn⟩:=aX l.length
 rw [hn] at CI ⊢
 clear hs hm hn
 generalize Value.func (.func 115) #[] #[]=F at *
 go_enter Tryz.func114,Tryz.ntmps114
 go_wp2_with (go_at_call 154;(with_reducible refine CI.out.mono ?_);rintro e w2 ⟨r,rfl,hr,hb2⟩;have HB:=aI hb2;have HR:=aI hr;clear hb2 hr)
 go_ret
 exact ⟨by rw [<-HR.out];rfl,HB.out⟩
theorem nm_is (s:ByteArray):Sx.nm s=((decide (1<=s.size) && decide (s.size<=12)) && (Sx.letterB (s.data.toList.headD 0) && s.data.toList.all Sx.alnumB)):=by
 unfold Sx.nm Sx.nameB
 rw [Vm.strLn]
 cases decide (1<=s.size) <;> cases decide (s.size<=12) <;> simp
theorem within_nat (n:Nat):Sx.within (n:Int) 1 12=(decide (1<=n) && decide (n<=12)):=by
 unfold Sx.within
 rw [show decide ((1:Int)<=(n:Int))=decide (1<=n) from le_cast 1 n,show decide ((n:Int)<=12)=decide (n<=12) from le_cast n 12]
theorem isName_any (s:ByteArray) (w:World) (hs:s.size<=9223372036854775807):Calls Tryz.prog 74 #[.string s] w (BoolP (Sx.nm s) w):=by
 rw [nm_is,<-within_nat]
 have HW:=aI within_any
 have HL:=aI letter_any
 have HCon:=aI conB_any
 have HTS:=aI hs
 clear hs
 obtain ⟨bw,hbw⟩:=aX (Sx.within (s.size:Int) 1 12)
 rw [hbw]
 have cw:=HW.out (s.size:Int) 1 12
 rw [hbw] at cw
 have CW:=aI cw
 clear cw
 cases bw
 .clear hbw
  go_enter Tryz.func74,Tryz.ntmps74
  go_wp2_with (go_at_call 25;(with_reducible refine aS (CW.out _) ?_))
  go_ret
  exact ⟨rfl,zf _ _⟩
 .have h1:1<=s.size:=by
   rw [within_nat] at hbw
   have:=(Bool.and_eq_true_iff.1 hbw).1
   exact of_decide_eq_true this
  have hne:0 < s.data.toList.length:=by rw [Vm.strLn];exact h1
  have h0:s.data.toList.headD 0=(s[0]'h1):=by
   rw [<-Vm.str_get s 0 h1 hne]
   rw [List.headD_eq_head?_getD,List.head?_eq_getElem?,zp hne]
   rfl
  rw [h0]
  have cl:=HL.out (s[0]'h1)
  obtain ⟨bl,hbl⟩:=aX (Sx.letterB (s[0]'h1))
  rw [hbl] at cl ⊢
  have CL:=aI cl
  have h1':(0:Int) < (s.size:Int):=by omega
  clear cl hbl hbw h0 hne
  cases bl
  .go_enter Tryz.func74,Tryz.ntmps74
   go_wp2_with (first | (go_at_call 25;(with_reducible refine aS (CW.out _) ?_)) | (go_at_call 113;(with_reducible refine aS (CL.out _) ?_)))
   go_ret
   exact ⟨rfl,zf _ _⟩
  .have hcv:=run_bytes_of_string (P:=Tryz.prog) w 9 35 5 s Tryz.underlying9 Tryz.underlying35 Tryz.underlying5
   obtain ⟨cap,hcap⟩:=aX (grownCap w s.size 0 5)
   rw [hcap] at hcv
   obtain ⟨W4,hW4⟩:=aX ((w.alloc (.cells (bytesRow s cap) 5 ((bytesRow s cap).size,(bytesRow s cap).size+1))).drew)
   have hB4:Below w.heap.size w W4:=by
    rw [<-hW4]
    exact (aP _ _).trans ⟨rfl,rfl,rfl,ag _,λ_ _=>rfl⟩
   have hs4:SlAt [] W4 (some ⟨w.heap.size,0,none⟩) s.data.toList:=by
    refine SlAt.of_cells (flat_bytes _) (by rw [<-hW4];show w.heap.size < (w.heap.push _).size;rw [Array.size_push];omega) (zr) λj u hu=>?_
    unfold byteVals at hu
    rw [List.getElem?_map] at hu
    obtain ⟨hj,hju⟩:∃hj:j < s.data.size,u=.int .u8 (s.data[j].toNat:Int):=by
     rcases aj j s.data.size with hj | hj
     .refine ⟨hj,?_⟩
      rw [zp (by simpa using hj)] at hu
      simpa using hu.symm
     .rw [List.getElem?_eq_none (by simpa using hj)] at hu;cases hu
    rw [hju,<-hW4]
    exact (cell_of_row _ w.heap.size j _ 5 _ (heap_alloc_new w _)).trans (bytesRow_at s cap j hj)
   have cc:=HCon.out s.data.toList (some ⟨w.heap.size,0,none⟩) cap W4 hs4 (by rw [Vm.strLn];exact HTS.out)
   rw [Vm.strLn] at cc
   obtain ⟨r,hr⟩:=aX (s.data.toList.all Sx.alnumB)
   rw [hr] at cc ⊢
   clear hr
   have CC:=aI cc
   have HB4:=aI hB4
   have HW4:=aI hW4
   clear cc hs4 hB4 hW4 hcap
   go_enter Tryz.func74,Tryz.ntmps74
   go_wp2_with (first | (go_at_call 25;(with_reducible refine aS (CW.out _) ?_)) | (go_at_call 113;(with_reducible refine aS (CL.out _) ?_)) | (go_at_call 114;rw [HW4.out];(with_reducible refine CC.out.mono ?_);rintro e w2 ⟨rfl,hb2⟩;have HB5:=aI (HB4.out.trans (hb2.mono HB4.out.size));clear hb2))
   go_ret
   exact ⟨by cases r <;> rfl,HB5.out⟩
def rtS:Value:=.func (.func 74) #[] #[]
def oneS (g:Nat):Value:=.func (.func 123) #[] #[.pointer (some ⟨g,0,none⟩)]
theorem oneS_any (x:ByteArray) (us:List Value) (g:Nat) (w:World) (hr:Mem.rep [] w x us) (hp:True) (hg:w.cell? ⟨g,0,none⟩=some rtS) :
  Calls Tryz.prog 123 #[us.headD .nilFunc,.pointer (some ⟨g,0,none⟩)] w (BoolP (!Sx.nm x) w):=by
 obtain ⟨rfl,hsz⟩:=hr
 have hr0:(True:Prop):=trivial
 show Calls Tryz.prog 123 #[.string x,.pointer (some ⟨g,0,none⟩)] w (BoolP (!Sx.nm x) w)
 have hB1:=zf w.heap.size w
 have hg1:=hg
 have hr9:=hr0
 have HC:=aI (isName_any x w hsz)
 obtain ⟨r,hrr⟩:=aX (Sx.nm x)
 rw [hrr] at HC ⊢
 have HB1:=aI hB1
 unfold rtS at hg1
 clear hrr hr0 hr9 hp hg hB1
 go_enter Tryz.func123,Tryz.ntmps123
 go_wp2_with (go_at_call 74;(with_reducible refine HC.out.mono ?_);rintro e w2 ⟨rfl,hb2⟩;have HB:=aI (HB1.out.trans (hb2.mono HB1.out.size));clear hb2)
 go_ret
 exact ⟨by cases r <;> rfl,HB.out⟩
theorem idxS_any (l:List (ByteArray)) (A:Option Addr) (c g:Nat) (W:World) (hs:SlAt [] W A l) (hm:l.length<=9223372036854775807) (hp:∀x∈l,True) (hg:W.cell? ⟨g,0,none⟩=some rtS) :
  Calls Tryz.prog 156 #[.slice A l.length c,oneS g] W (PredP (!l.all Sx.nm) W):=by
 obtain ⟨n,hn⟩:=aX l.length
 have HS:=aI hs
 have HN:=aI hn
 have HP:=aI hp
 have HG:=aI hg
 rw [hn]
 rw [hn] at hm
 have HV:=aI oneS_any
 unfold oneS
 clear hs hn hp hg
 go_enter Tryz.func156,Tryz.ntmps156
 go_wp2_with fail
 go_loopg [8] n (λr i wr=>∃k:Nat,k+r=n/\i=.int .i64 k/\Below W.heap.size W wr/\∀j (hj:j < l.length),j < k->Sx.nm l[j]=true)
 case atStart=>exact ⟨0,by omega,rfl,zf _ _,λ_ _ h=>by omega⟩
 case round =>
  obtain ⟨k,hk,rfl,hb,hall⟩:=hrel
  obtain ⟨wo,rfl⟩:=aY wr
  have HB:=aI hb
  have HA:=aI hall
  clear hb hall
  by_cases hlt:k < n
  .have hkp:k < l.length:=by rw [HN.out];exact hlt
   have k0:(0:Int)<=(k:Int):=aa _
   have k1:(k:Int) < (n:Int):=by omega
   obtain ⟨b,o,us,rfl,_,hr,hc⟩:=(HS.out.keep (za HB.out)).get k hkp
   have cv:=HV.out l[k] us g wo hr (HP.out _ (ze hkp)) ((HB.out.cell (zc _ _ HG.out)).trans HG.out)
   obtain ⟨x,hx⟩:=aX (l[k])
   rw [hx] at cv hr
   obtain ⟨rfl,hsz⟩:=hr
   have hr0:(True:Prop):=trivial
   change Calls Tryz.prog 123 #[.string x,.pointer (some ⟨g,0,none⟩)] wo _ at cv
   have c0:wo.cell? ⟨b,o+k,none⟩=some (.string x):=by have:=hc 0 _ rfl;rw [show k*Mem.sz (ByteArray)+0=k from zO k] at this;exact this
   obtain ⟨bb,hbb⟩:=aX (Sx.nm x)
   rw [hbb] at cv
   have CV:=aI cv
   have HX:=aI hx
   have HBB:=aI hbb
   clear cv hbb hr0 hc hx
   cases bb
   .have HR:=aI (all_bad (b:=Sx.nm) hkp (by rw [HX.out];exact HBB.out))
    go_wp2_with (go_at_call 123;(with_reducible refine CV.out.mono ?_);rintro e w2 ⟨rfl,hb2⟩;replace HB:=aT HB hb2;clear hb2)
    go_ret
    exact ⟨_,rfl,by rw [HR.out];simp,HB.out⟩
   .go_wp2_with (go_at_call 123;(with_reducible refine CV.out.mono ?_);rintro e w2 ⟨rfl,hb2⟩;replace HB:=aT HB hb2;clear hb2)
    go_roundg (gk - 1)
    case measure=>omega
    case rel =>
     refine ⟨k+1,by omega,by go_num,HB.out,λq hq hlt=>?_⟩
     rcases aj q k with h' | h'
     .exact HA.out q hq h'
     .obtain rfl:q=k:=by omega
      rw [HX.out];exact HBB.out
  .have HR:=aI (all_good (b:=Sx.nm) λq hq=>HA.out q hq (by rw [HN.out] at hq;omega))
   have k1:¬(k:Int) < (n:Int):=by omega
   go_wp2_with fail
   go_ret
   exact ⟨_,rfl,by rw [HR.out];rfl,HB.out⟩
theorem conS_any (l:List (ByteArray)) (A:Option Addr) (c g:Nat) (W:World) (hs:SlAt [] W A l) (hm:l.length<=9223372036854775807) (hp:∀x∈l,True) (hg:W.cell? ⟨g,0,none⟩=some rtS) :
  Calls Tryz.prog 122 #[.slice A l.length c,oneS g] W (BoolP (!l.all Sx.nm) W):=by
 have CI:=aI (idxS_any l A c g W hs hm hp hg)
 obtain ⟨n,hn⟩:=aX l.length
 rw [hn] at CI ⊢
 clear hs hm hn hp hg
 generalize oneS g=F at *
 go_enter Tryz.func122,Tryz.ntmps122
 go_wp2_with (go_at_call 156;(with_reducible refine CI.out.mono ?_);rintro e w2 ⟨r,rfl,hr,hb2⟩;have HB:=aI hb2;have HR:=aI hr;clear hb2 hr)
 go_ret
 exact ⟨by rw [<-HR.out];rfl,HB.out⟩
theorem allS_any (l:List (ByteArray)) (A:Option Addr) (c:Nat) (w:World) (hs:SlAt [] w A l) (hm:l.length<=9223372036854775807) (hp:∀x∈l,True) :
  Calls Tryz.prog 80 #[.slice A l.length c,rtS] w (BoolP (l.all Sx.nm) w):=by
 have hB1:Below w.heap.size w (w.alloc (.cells #[rtS] 112)):=aP _ _
 have CC:=aI (conS_any l A c w.heap.size (w.alloc (.cells #[rtS] 112)) (hs.keep (za hB1)) hm hp (cell_box1 w _ _))
 obtain ⟨n,hn⟩:=aX l.length
 rw [hn] at CC ⊢
 generalize l.all Sx.nm=r at *
 unfold rtS at CC hB1 ⊢
 unfold oneS at CC
 have HB1:=aI hB1
 clear hs hm hn hp hB1
 go_enter Tryz.func80,Tryz.ntmps80
 go_wp2_with (go_at_call 122;(with_reducible refine CC.out.mono ?_);rintro e w2 ⟨rfl,hb2⟩;have HB:=aI (HB1.out.trans (hb2.mono HB1.out.size));clear hb2)
 go_ret
 exact ⟨by cases r <;> rfl,HB.out⟩
theorem sum_take (l:List Int) (k:Nat) (h:k < l.length):(l.take (k+1)).sum=(l.take k).sum+l[k]:=by
 rw [List.take_succ_eq_append_getElem h,List.sum_append];simp
theorem within_bd {n a b:Int} (h:Sx.within n a b=true):a<=n/\n<=b:=by
 unfold Sx.within at h
 have:=Bool.and_eq_true_iff.1 h
 exact ⟨of_decide_eq_true this.1,of_decide_eq_true this.2⟩
theorem isPick_any (ws:List ByteArray) (ns:List Int) (A B:Option Addr) (c d:Nat) (w:World) (hw:SlAt [] w A ws) (hn:SlAt [] w B ns) (hmw:ws.length<=9223372036854775807) (hmn:ns.length<=1000000) :
  Calls Tryz.prog 120 #[.slice A ws.length c,.slice B ns.length d] w (BoolP (Sx.pickB ws ns) w):=by
 have HW:=aI within_any
 obtain ⟨nw,hnw⟩:=aX ws.length
 obtain ⟨nn,hnn⟩:=aX ns.length
 have HNN:=aI hnn
 have HNW:=aI hnw
 have HS:=aI hn
 have CA:=aI (λw' (hb:Below w.heap.size w w')=>allS_any ws A c w' (hw.keep (za hb)) hmw (λ_ _=>trivial))
 rw [hnw] at CA
 rw [hnw,hnn]
 rw [hnn] at hmn
 unfold rtS at CA
 clear hw hn hnn hnw hmw
 go_enter Tryz.func120,Tryz.ntmps120
 go_wp2_with fail
 go_loopg [5,10] nn (λr s i wr=>∃k:Nat,k+r=nn/\i=.int .i64 k/\s=.int .i64 ((ns.take k).sum)/\0<=(ns.take k).sum/\(ns.take k).sum<=1048576*k/\Below w.heap.size w wr/\∀j (hj:j < ns.length),j < k->Sx.within ns[j] 0 Sx.most=true)
 case atStart=>exact ⟨0,by omega,rfl,rfl,by simp,by simp,zf _ _,λ_ _ h=>by omega⟩
 case round =>
  obtain ⟨k,hk,rfl,rfl,hs0,hs1,hb,hall⟩:=hrel
  obtain ⟨wo,rfl⟩:=aY wr
  have HB:=aI hb
  have HA:=aI hall
  clear hb hall
  obtain ⟨sm,hsm⟩:=aX ((ns.take k).sum)
  rw [hsm] at hs0 hs1 ⊢
  by_cases hlt:k < nn
  .have hkp:k < ns.length:=by rw [HNN.out];exact hlt
   have k0:(0:Int)<=(k:Int):=aa _
   have k1:(k:Int) < (nn:Int):=by omega
   obtain ⟨b,o,rfl,_,c0,hin⟩:=int_at (HS.out.keep (za HB.out)) k hkp
   have HSM:=aI (sum_take ns k hkp)
   have cv:=HW.out ns[k] 0 1048576
   obtain ⟨bb,hbb⟩:=aX (Sx.within ns[k] 0 1048576)
   rw [hbb] at cv
   have CV:=aI cv
   have HBB:=aI hbb
   have HSE:=aI hsm
   obtain ⟨x,hx⟩:=aX (ns[k])
   rw [hx] at c0 CV HSM hin
   have HX:=aI hx
   clear cv hbb hsm hx
   cases bb
   .have HR:=aI (show ns.all (λn=>Sx.within n 0 Sx.most)=false from all_bad hkp HBB.out)
    go_wp2_with (go_at_call 25;(with_reducible refine aS (CV.out _) ?_))
    go_ret
    exact ⟨by unfold Sx.pickB;rw [HR.out];rfl,HB.out⟩
   .have hbd:=within_bd HBB.out
    rw [HX.out] at hbd
    go_wp2_with (go_at_call 25;(with_reducible refine aS (CV.out _) ?_))
    go_roundg (gk - 1)
    case measure=>omega
    case rel =>
     refine ⟨k+1,by omega,by go_num,?_,?_,?_,HB.out,λq hq hlt=>?_⟩
     .rw [HSM.out,HSE.out]
     .rw [HSM.out,HSE.out];omega
     .rw [HSM.out,HSE.out];omega
     .rcases aj q k with h' | h'
      .exact HA.out q hq h'
      .obtain rfl:q=k:=by omega
       exact HBB.out
  .have k1:¬(k:Int) < (nn:Int):=by omega
   have hR:=all_good (b:=λn=>Sx.within n 0 Sx.most) (l:=ns) λq hq=>HA.out q hq (by rw [HNN.out] at hq;omega)
   have hsum:ns.sum=sm:=by rw [<-hsm,List.take_of_length_le (by rw [HNN.out];omega)]
   have hp:Sx.pickB ws ns=(Sx.within (nw:Int) 1 12 && (decide (nw=nn) && (decide (0 < sm) && ws.all Sx.nm))):=by
    unfold Sx.pickB
    rw [hR,hsum,HNN.out,HNW.out];rfl
   have cw:=HW.out (nw:Int) 1 12
   have ca:=CA.out wo HB.out
   obtain ⟨b1,h1⟩:=aX (Sx.within (nw:Int) 1 12)
   obtain ⟨b2,h2⟩:∃b,decide (nw=nn)=b:=⟨_,rfl⟩
   obtain ⟨b3,h3⟩:=aX (decide (0 < sm))
   obtain ⟨b4,h4⟩:=aX (ws.all Sx.nm)
   rw [h1] at cw
   rw [h4] at ca
   rw [h1,h2,h3,h4] at hp
   have HPK:=aI hp
   have h2':((nw:Int) == (nn:Int))=b2:=by
    by_cases h:nw=nn
    .rw [<-h2,h];simp
    .rw [<-h2,ad h];exact beq_eq_false_iff_ne.2 (by omega)
   have CW:=aI cw
   have CS:=aI ca
   clear cw ca hp hsum hR hsm h1 h4 hs0 hs1
   cases b1 <;> cases b2 <;> cases b3 <;> (go_wp2_with (first | (go_at_call 25;(with_reducible refine aS (CW.out _) ?_)) | (go_at_call 80;(with_reducible refine CS.out.mono ?_);rintro e w2 ⟨rfl,hb2⟩;replace HB:=aT HB hb2;clear hb2));go_ret;exact ⟨by rw [HPK.out];cases b4 <;> rfl,HB.out⟩)
theorem str_cells {w:World} {A:Option Addr} {l:List ByteArray} (h:SlAt [] w A l) (hl:0 < l.length):∃b o,A=some ⟨b,o,none⟩/\∀j,j < l.length->w.cell? ⟨b,o+j,none⟩=some (.string (l.getD j ByteArray.empty)):=by
 obtain ⟨b,o,hA,_,_,_⟩:=str_at h 0 hl
 refine ⟨b,o,hA,λj hj=>?_⟩
 obtain ⟨b',o',hA',_,hc,_⟩:=str_at h j hj
 obtain ⟨rfl,rfl⟩:=addr_inj (hA.symm.trans hA')
 rw [hc,getD_in hj]
theorem int_cells {w:World} {A:Option Addr} {l:List Int} (h:SlAt [] w A l) (hl:0 < l.length):∃b o,A=some ⟨b,o,none⟩/\∀j,j < l.length->w.cell? ⟨b,o+j,none⟩=some (.int .i64 (l.getD j 0)):=by
 obtain ⟨b,o,hA,_,_,_⟩:=int_at h 0 hl
 refine ⟨b,o,hA,λj hj=>?_⟩
 obtain ⟨b',o',hA',_,hc,_⟩:=int_at h j hj
 obtain ⟨rfl,rfl⟩:=addr_inj (hA.symm.trans hA')
 rw [hc,getD_in hj]
theorem eqS_any (xs ys:List ByteArray) (A B:Option Addr) (c d:Nat) (w:World) (ha:SlAt [] w A xs) (hb:SlAt [] w B ys) (hx:xs.length<=9223372036854775807) (hy:ys.length<=9223372036854775807) :
  Calls Tryz.prog 65 #[.slice A xs.length c,.slice B ys.length d] w (BoolP (decide (xs=ys)) w):=by
 by_cases hl:xs.length=ys.length
 .by_cases h0:xs.length=0
  .have e1:xs=[]:=List.length_eq_zero_iff.1 h0
   have e2:ys=[]:=List.length_eq_zero_iff.1 (by omega)
   subst e1 e2
   exact (Tryz.slices_Equal_string_empty A B c 0 d w (zN _)).mono λe w' ⟨h1,h2⟩=>⟨by rw [h1];rfl,by rw [h2];exact zf _ _⟩
  .obtain ⟨b1,o1,rfl,c1⟩:=str_cells ha (by omega)
   obtain ⟨b2,o2,rfl,c2⟩:=str_cells hb (by omega)
   refine (Tryz.slices_Equal_string b1 o1 xs.length c b2 o2 ys.length d xs ys w (ag _) (ag _) hx hy c1 c2).mono λe w' ⟨h1,q,h2⟩=>⟨?_,by rw [h2];exact w_drew w q⟩
   rw [h1,List.take_length,List.take_length]
 .exact (Tryz.slices_Equal_string_lens A B xs.length c ys.length d w hl).mono λe w' ⟨h1,h2⟩=>⟨by rw [h1,ad (λh=>hl (by rw [h]))],by rw [h2];exact zf _ _⟩
theorem eqI_any (xs ys:List Int) (A B:Option Addr) (c d:Nat) (w:World) (ha:SlAt [] w A xs) (hb:SlAt [] w B ys) (hx:xs.length<=9223372036854775807) (hy:ys.length<=9223372036854775807) :
  Calls Tryz.prog 111 #[.slice A xs.length c,.slice B ys.length d] w (BoolP (decide (xs=ys)) w):=by
 by_cases hl:xs.length=ys.length
 .by_cases h0:xs.length=0
  .have e1:xs=[]:=List.length_eq_zero_iff.1 h0
   have e2:ys=[]:=List.length_eq_zero_iff.1 (by omega)
   subst e1 e2
   exact (Tryz.slices_Equal_int_empty A B c 0 d w (zN _)).mono λe w' ⟨h1,h2⟩=>⟨by rw [h1];rfl,by rw [h2];exact zf _ _⟩
  .obtain ⟨b1,o1,rfl,c1⟩:=int_cells ha (by omega)
   obtain ⟨b2,o2,rfl,c2⟩:=int_cells hb (by omega)
   refine (Tryz.slices_Equal_int b1 o1 xs.length c b2 o2 ys.length d xs ys w (ag _) (ag _) hx hy c1 c2).mono λe w' ⟨h1,q,h2⟩=>⟨?_,by rw [h2];exact w_drew w q⟩
   rw [h1,List.take_length,List.take_length]
   by_cases h:xs=ys
   .rw [decide_eq_true h,h];simp
   .rw [ad h,beq_eq_false_iff_ne.2 h]
 .exact (Tryz.slices_Equal_int_lens A B xs.length c ys.length d w hl).mono λe w' ⟨h1,h2⟩=>⟨by rw [h1,ad (λh=>hl (by rw [h]))],by rw [h2];exact zf _ _⟩
end
end Go.Proofs.YtobcnhmhgoccnaaGreatDoor
