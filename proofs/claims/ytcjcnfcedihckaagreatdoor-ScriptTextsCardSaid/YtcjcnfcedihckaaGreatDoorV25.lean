/- Part. -/
import Derived.Test.YtcjcnfcedihckaaGreatDoorV24
import Derived.Shelf.Strings.OnBuilder
import Derived.Shelf.Strings.Repeat
import Derived.Shelf.Small.Strs
import Derived.Shelf.Small.Wraps
import Derived.Shelf.LaysM
import Derived.Shelf.Strconv.Itoa3
import Derived.Test.YtcjcnfcedihckaaGreatDoorProg
import Derived.Shelf.Strings.Trim
import Derived.Shelf.Strings.Search3
import Derived.Shelf.Strconv.ErrVarAll
set_option linter.all false
namespace Go.Proofs
open Go.Shelf
def Tryz.DN: Go.Shelf.Ren:=⟨fun|156=>90|165=>131|166=>21|169=>23|240=>46|241=>167|276=>92|277=>205|n=>n,fun|31=>31|9=>9|3=>3|4=>4|0=>0|20=>20|72=>56|76=>60|70=>53|37=>54|75=>59|127=>93|164=>123|5=>5|80=>63|n=>n,fun|n=>n⟩
def Tryz.Qc: Go.Proofs.Lays.n156 Tryz.prog Tryz.DN:= {
 mixed:=by kernel_rfl
 f156:=Tryz.func90.trans (congrArg some (by kernel_rfl))
 f165:=Tryz.func131.trans (congrArg some (by kernel_rfl))
 f166:=Tryz.func21.trans (congrArg some (by kernel_rfl))
 f169:=Tryz.func23.trans (congrArg some (by kernel_rfl))
 f240:=Tryz.func46.trans (congrArg some (by kernel_rfl))
 f241:=Tryz.func167.trans (congrArg some (by kernel_rfl))
 f276:=Tryz.func92.trans (congrArg some (by kernel_rfl))
 f277:=Tryz.func205.trans (congrArg some (by kernel_rfl))
 t0:=Tryz.underlying0
 a0:=Tryz.isAgg0
 z0:=Tryz.sizeOf0
 v0:=Tryz.zeroValue0
 t3:=Tryz.underlying3
 a3:=Tryz.isAgg3
 z3:=Tryz.sizeOf3
 v3:=Tryz.zeroValue3
 t4:=Tryz.underlying4
 a4:=Tryz.isAgg4
 z4:=Tryz.sizeOf4
 v4:=Tryz.zeroValue4
 t9:=Tryz.underlying9
 a9:=Tryz.isAgg9
 z9:=Tryz.sizeOf9
 v9:=Tryz.zeroValue9
 t20:=Tryz.underlying20
 a20:=Tryz.isAgg20
 z20:=Tryz.sizeOf20
 v20:=Tryz.zeroValue20
 t31:=Tryz.underlying31
 a31:=Tryz.isAgg31
 z31:=Tryz.sizeOf31
 v31:=Tryz.zeroValue31
 t37:=Tryz.underlying54
 a37:=Tryz.isAgg54
 z37:=Tryz.sizeOf54
 v37:=Tryz.zeroValue54
 t70:=Tryz.underlying53
 a70:=Tryz.isAgg53
 z70:=Tryz.sizeOf53
 v70:=Tryz.zeroValue53
 t72:=Tryz.underlying56
 a72:=Tryz.isAgg56
 z72:=Tryz.sizeOf56
 v72:=Tryz.zeroValue56
 t75:=Tryz.underlying59
 a75:=Tryz.isAgg59
 z75:=Tryz.sizeOf59
 v75:=Tryz.zeroValue59
 t76:=Tryz.underlying60
 a76:=Tryz.isAgg60
 z76:=Tryz.sizeOf60
 v76:=Tryz.zeroValue60
 t127:=Tryz.underlying93
 a127:=Tryz.isAgg93
 z127:=Tryz.sizeOf93
 v127:=Tryz.zeroValue93
 t164:=Tryz.underlying123
 a164:=Tryz.isAgg123
 z164:=Tryz.sizeOf123
 v164:=Tryz.zeroValue123 }
def Tryz.uo: Builder.Extra Tryz.prog Tryz.DN:= {
 sizeBuilder:=by kernel_rfl
 liesBuilder:=by kernel_rfl
 t5:=Tryz.underlying5
 a5:=Tryz.isAgg5
 z5:=Tryz.sizeOf5
 v5:=Tryz.zeroValue5
 infoByte:=by kernel_rfl
 cellsByte:=by kernel_rfl
 sizeByte:=by kernel_rfl
 neB5:=by decide }
open Go.RowKit in
def Tryz.strings_Join_none (a : Option Addr) (c : Nat) (sep : ByteArray) (w : World) :
    Calls Tryz.prog 90 #[.slice a 0 c,.string sep] w fun e w'=>e = .returned (.string ⟨#[]⟩)/\w'=w:=Any.strings_Join_none Tryz.Qc Tryz.uo a c sep w
open Go.RowKit in
def Tryz.strings_Join (bk o c : Nat) (xs : List ByteArray) (sep : ByteArray) (w : World) (hcells : ∀ (j : Nat) x, xs[j]? = some x -> w.cell? ⟨bk, o + j, none⟩ = some (.string x)) (hbk : bk < w.heap.size) (hN : xs.length <= 140737488355328) (hcap : xs.length <= c) (hlen : (Lib.join (xs.map (·.data.toList)) sep.data.toList).length <= 140737488355328) :
    Calls Tryz.prog 90 #[.slice (some ⟨bk,o,none⟩) xs.length c,.string sep] w fun e w'=>e = .returned (.string ⟨(Lib.join (xs.map (·.data.toList)) sep.data.toList).toArray⟩)/\Below w.heap.size w w':=Any.strings_Join Tryz.Qc Tryz.uo bk o c xs sep w hcells hbk hN hcap hlen
def Tryz.OS: Go.Shelf.Ren:=⟨fun|160=>25|232=>53|231=>52|227=>54|234=>56|233=>55|236=>58|235=>57|228=>98|271=>101|151=>100|197=>99|120=>144|152=>143|260=>142|137=>179|119=>180|224=>147|225=>146|217=>145|266=>181|n=>n,fun|9=>9|4=>4|3=>3|5=>5|117=>99|116=>98|0=>0|124=>102|21=>21|105=>129|46=>39|119=>216|139=>219|138=>218|n=>n,fun|3=>1|4=>2|n=>n⟩
def Tryz.X6: Go.Proofs.Lays.n160 Tryz.prog Tryz.OS:= {
 mixed:=by kernel_rfl
 f119:=Tryz.func180.trans (congrArg some (by kernel_rfl))
 f120:=Tryz.func144.trans (congrArg some (by kernel_rfl))
 f137:=Tryz.func179.trans (congrArg some (by kernel_rfl))
 f151:=Tryz.func100.trans (congrArg some (by kernel_rfl))
 f152:=Tryz.func143.trans (congrArg some (by kernel_rfl))
 f160:=Tryz.func25.trans (congrArg some (by kernel_rfl))
 f197:=Tryz.func99.trans (congrArg some (by kernel_rfl))
 f217:=Tryz.func145.trans (congrArg some (by kernel_rfl))
 f224:=Tryz.func147.trans (congrArg some (by kernel_rfl))
 f225:=Tryz.func146.trans (congrArg some (by kernel_rfl))
 f227:=Tryz.func54.trans (congrArg some (by kernel_rfl))
 f228:=Tryz.func98.trans (congrArg some (by kernel_rfl))
 f231:=Tryz.func52.trans (congrArg some (by kernel_rfl))
 f232:=Tryz.func53.trans (congrArg some (by kernel_rfl))
 f233:=Tryz.func55.trans (congrArg some (by kernel_rfl))
 f234:=Tryz.func56.trans (congrArg some (by kernel_rfl))
 f235:=Tryz.func57.trans (congrArg some (by kernel_rfl))
 f236:=Tryz.func58.trans (congrArg some (by kernel_rfl))
 f260:=Tryz.func142.trans (congrArg some (by kernel_rfl))
 f266:=Tryz.func181.trans (congrArg some (by kernel_rfl))
 f271:=Tryz.func101.trans (congrArg some (by kernel_rfl))
 t0:=Tryz.underlying0
 a0:=Tryz.isAgg0
 z0:=Tryz.sizeOf0
 v0:=Tryz.zeroValue0
 t3:=Tryz.underlying3
 a3:=Tryz.isAgg3
 z3:=Tryz.sizeOf3
 v3:=Tryz.zeroValue3
 t4:=Tryz.underlying4
 a4:=Tryz.isAgg4
 z4:=Tryz.sizeOf4
 v4:=Tryz.zeroValue4
 t5:=Tryz.underlying5
 a5:=Tryz.isAgg5
 z5:=Tryz.sizeOf5
 v5:=Tryz.zeroValue5
 t9:=Tryz.underlying9
 a9:=Tryz.isAgg9
 z9:=Tryz.sizeOf9
 v9:=Tryz.zeroValue9
 t21:=Tryz.underlying21
 a21:=Tryz.isAgg21
 z21:=Tryz.sizeOf21
 v21:=Tryz.zeroValue21
 t46:=Tryz.underlying39
 a46:=Tryz.isAgg39
 z46:=Tryz.sizeOf39
 v46:=Tryz.zeroValue39
 t105:=Tryz.underlying129
 a105:=Tryz.isAgg129
 z105:=Tryz.sizeOf129
 v105:=Tryz.zeroValue129
 t116:=Tryz.underlying98
 a116:=Tryz.isAgg98
 z116:=Tryz.sizeOf98
 t117:=Tryz.underlying99
 a117:=Tryz.isAgg99
 z117:=Tryz.sizeOf99
 v117:=Tryz.zeroValue99
 t119:=Tryz.underlying216
 a119:=Tryz.isAgg216
 z119:=Tryz.sizeOf216
 t124:=Tryz.underlying102
 a124:=Tryz.isAgg102
 z124:=Tryz.sizeOf102
 v124:=Tryz.zeroValue102
 t138:=Tryz.underlying218
 a138:=Tryz.isAgg218
 z138:=Tryz.sizeOf218
 v138:=Tryz.zeroValue218
 t139:=Tryz.underlying219
 a139:=Tryz.isAgg219
 z139:=Tryz.sizeOf219
 v139:=Tryz.zeroValue219
 g3:=by kernel_rfl
 g4:=by kernel_rfl }
open Go.RowKit in
def Tryz.strings_Trim_one (s : ByteArray) (c : UInt8) (hc : c.toNat < 128) (w : World) (hs : s.size <= 9223372036854775807) :
    Calls Tryz.prog 25 #[.string s,.string ⟨#[c]⟩] w fun e w'=>e = .returned (.string ⟨(Lib.trimB s.data.toList c).toArray⟩)/\(w'=w\/w'=w.drew):=Any.strings_Trim_one Tryz.X6 s c hc w hs
def Tryz.OU: Go.Shelf.Ren:=⟨fun|121=>169|214=>207|n=>n,fun|4=>4|9=>9|n=>n,fun|n=>n⟩
def Tryz.X7: Go.Proofs.Lays.n121 Tryz.prog Tryz.OU:= {
 mixed:=by kernel_rfl
 f121:=Tryz.func169.trans (congrArg some (by kernel_rfl))
 f214:=Tryz.func207.trans (congrArg some (by kernel_rfl))
 t4:=Tryz.underlying4
 a4:=Tryz.isAgg4
 z4:=Tryz.sizeOf4
 v4:=Tryz.zeroValue4
 t9:=Tryz.underlying9
 a9:=Tryz.isAgg9
 z9:=Tryz.sizeOf9
 v9:=Tryz.zeroValue9 }
open Go.RowKit in
def Tryz.strconv_FormatBool (b : Bool) (w : World) :
    Calls Tryz.prog 169 #[.bool b] w fun e w'=>e = .returned (.string ⟨(Lib.formatBool b).toArray⟩)/\w'=w:=Any.strconv_FormatBool Tryz.X7 b w
def Tryz.M6: Go.Shelf.Ren:=⟨fun|171=>41|243=>86|246=>130|283=>163|284=>164|285=>165|286=>166|129=>201|317=>200|318=>202|319=>203|320=>204|337=>242|338=>243|n=>n,fun|3=>3|9=>9|2=>2|4=>4|171=>203|0=>0|53=>166|37=>54|5=>5|173=>206|212=>243|51=>221|20=>20|213=>244|46=>39|232=>314|233=>315|n=>n,fun|17=>3|18=>4|19=>5|n=>n⟩
def Tryz.V3: Go.Proofs.LaysM.n171 Tryz.prog Tryz.M6:= {
 mixed:=by kernel_rfl
 f129:=Tryz.func201.trans (congrArg some (by kernel_rfl))
 f171:=Tryz.func41.trans (congrArg some (by kernel_rfl))
 f243:=Tryz.func86.trans (congrArg some (by kernel_rfl))
 f246:=Tryz.func130.trans (congrArg some (by kernel_rfl))
 f283:=Tryz.func163.trans (congrArg some (by kernel_rfl))
 f284:=Tryz.func164.trans (congrArg some (by kernel_rfl))
 f285:=Tryz.func165.trans (congrArg some (by kernel_rfl))
 f286:=Tryz.func166.trans (congrArg some (by kernel_rfl))
 f317:=Tryz.func200.trans (congrArg some (by kernel_rfl))
 f318:=Tryz.func202.trans (congrArg some (by kernel_rfl))
 f319:=Tryz.func203.trans (congrArg some (by kernel_rfl))
 f320:=Tryz.func204.trans (congrArg some (by kernel_rfl))
 f337:=Tryz.func242.trans (congrArg some (by kernel_rfl))
 f338:=Tryz.func243.trans (congrArg some (by kernel_rfl))
 t0:=Tryz.underlying0
 a0:=Tryz.isAgg0
 z0:=Tryz.sizeOf0
 v0:=Tryz.zeroValue0
 t2:=Tryz.underlying2
 a2:=Tryz.isAgg2
 z2:=Tryz.sizeOf2
 v2:=Tryz.zeroValue2
 t3:=Tryz.underlying3
 a3:=Tryz.isAgg3
 z3:=Tryz.sizeOf3
 v3:=Tryz.zeroValue3
 t4:=Tryz.underlying4
 a4:=Tryz.isAgg4
 z4:=Tryz.sizeOf4
 v4:=Tryz.zeroValue4
 t5:=Tryz.underlying5
 a5:=Tryz.isAgg5
 z5:=Tryz.sizeOf5
 v5:=Tryz.zeroValue5
 t9:=Tryz.underlying9
 a9:=Tryz.isAgg9
 z9:=Tryz.sizeOf9
 v9:=Tryz.zeroValue9
 t20:=Tryz.underlying20
 a20:=Tryz.isAgg20
 z20:=Tryz.sizeOf20
 v20:=Tryz.zeroValue20
 t37:=Tryz.underlying54
 a37:=Tryz.isAgg54
 z37:=Tryz.sizeOf54
 v37:=Tryz.zeroValue54
 t46:=Tryz.underlying39
 a46:=Tryz.isAgg39
 z46:=Tryz.sizeOf39
 v46:=Tryz.zeroValue39
 t51:=Tryz.underlying221
 a51:=Tryz.isAgg221
 z51:=Tryz.sizeOf221
 v51:=Tryz.zeroValue221
 t53:=Tryz.underlying166
 a53:=Tryz.isAgg166
 z53:=Tryz.sizeOf166
 v53:=Tryz.zeroValue166
 t171:=Tryz.underlying203
 a171:=Tryz.isAgg203
 z171:=Tryz.sizeOf203
 v171:=Tryz.zeroValue203
 t173:=Tryz.underlying206
 a173:=Tryz.isAgg206
 z173:=Tryz.sizeOf206
 v173:=Tryz.zeroValue206
 t212:=Tryz.underlying243
 a212:=Tryz.isAgg243
 z212:=Tryz.sizeOf243
 v212:=Tryz.zeroValue243
 t213:=Tryz.underlying244
 a213:=Tryz.isAgg244
 z213:=Tryz.sizeOf244
 t232:=Tryz.underlying314
 a232:=Tryz.isAgg314
 z232:=Tryz.sizeOf314
 v232:=Tryz.zeroValue314
 t233:=Tryz.underlying315
 a233:=Tryz.isAgg315
 z233:=Tryz.sizeOf315
 v233:=Tryz.zeroValue315
 g17:=by kernel_rfl
 g18:=by kernel_rfl
 g19:=by kernel_rfl
 i0:=by kernel_rfl
 i2:=by kernel_rfl
 i3:=by kernel_rfl
 i4:=by kernel_rfl
 i5:=by kernel_rfl
 i9:=by kernel_rfl
 i20:=by kernel_rfl
 i37:=by kernel_rfl
 i46:=by kernel_rfl
 i51:=by kernel_rfl
 i53:=by kernel_rfl
 i171:=by kernel_rfl
 i173:=by kernel_rfl
 i212:=by kernel_rfl
 i232:=by kernel_rfl
 i233:=by kernel_rfl
 m17:=by kernel_rfl
 m18:=by kernel_rfl
 m19:=by kernel_rfl }
open Go.RowKit Go.Sort Go.Lib in
def Tryz.strconv_Itoa (n : Int) (h0 : -9223372036854775808 ≤ n) (h1 : n ≤ 9223372036854775807) (w : World) (htab : Lib.TabIs Tryz.prog w "internal/strconv.uint64pow10" .u64 Lib.pow10Tab) :
    Calls Tryz.prog 41 #[.int .i64 n] w fun e w'=>e = .returned (.string ⟨(Lib.itoa n).toArray⟩)/\ ∃ k os,w'=grow (w.drewN k) os:=Any.strconv_Itoa Tryz.V3 n h0 h1 w htab
def Tryz.M7: Go.Shelf.Ren:=⟨fun|172=>223|244=>257|245=>258|247=>282|279=>283|280=>284|281=>285|282=>286|287=>306|316=>307|171=>41|205=>308|321=>317|322=>318|243=>86|246=>130|283=>163|284=>164|285=>165|286=>166|129=>201|317=>200|318=>202|319=>203|320=>204|337=>242|338=>243|n=>n,fun|9=>9|3=>3|75=>59|76=>60|4=>4|5=>5|167=>325|37=>54|0=>0|85=>326|2=>2|168=>328|53=>166|175=>343|46=>39|210=>346|127=>93|145=>353|143=>351|21=>21|171=>203|173=>206|212=>243|51=>221|20=>20|213=>244|232=>314|233=>315|80=>63|n=>n,fun|15=>6|16=>7|17=>3|18=>4|19=>5|n=>n⟩
def Tryz.EZ: Go.Proofs.LaysC.n172 Tryz.prog Tryz.M7:= {
 mixed:=by kernel_rfl
 f129:=Tryz.func201.trans (congrArg some (by kernel_rfl))
 f171:=Tryz.func41.trans (congrArg some (by kernel_rfl))
 f172:=Tryz.func223.trans (congrArg some (by kernel_rfl))
 f205:=Tryz.func308.trans (congrArg some (by kernel_rfl))
 f243:=Tryz.func86.trans (congrArg some (by kernel_rfl))
 f244:=Tryz.func257.trans (congrArg some (by kernel_rfl))
 f245:=Tryz.func258.trans (congrArg some (by kernel_rfl))
 f246:=Tryz.func130.trans (congrArg some (by kernel_rfl))
 f247:=Tryz.func282.trans (congrArg some (by kernel_rfl))
 f279:=Tryz.func283.trans (congrArg some (by kernel_rfl))
 f280:=Tryz.func284.trans (congrArg some (by kernel_rfl))
 f281:=Tryz.func285.trans (congrArg some (by kernel_rfl))
 f282:=Tryz.func286.trans (congrArg some (by kernel_rfl))
 f283:=Tryz.func163.trans (congrArg some (by kernel_rfl))
 f284:=Tryz.func164.trans (congrArg some (by kernel_rfl))
 f285:=Tryz.func165.trans (congrArg some (by kernel_rfl))
 f286:=Tryz.func166.trans (congrArg some (by kernel_rfl))
 f287:=Tryz.func306.trans (congrArg some (by kernel_rfl))
 f316:=Tryz.func307.trans (congrArg some (by kernel_rfl))
 f317:=Tryz.func200.trans (congrArg some (by kernel_rfl))
 f318:=Tryz.func202.trans (congrArg some (by kernel_rfl))
 f319:=Tryz.func203.trans (congrArg some (by kernel_rfl))
 f320:=Tryz.func204.trans (congrArg some (by kernel_rfl))
 f321:=Tryz.func317.trans (congrArg some (by kernel_rfl))
 f322:=Tryz.func318.trans (congrArg some (by kernel_rfl))
 f337:=Tryz.func242.trans (congrArg some (by kernel_rfl))
 f338:=Tryz.func243.trans (congrArg some (by kernel_rfl))
 t0:=Tryz.underlying0
 a0:=Tryz.isAgg0
 z0:=Tryz.sizeOf0
 v0:=Tryz.zeroValue0
 t2:=Tryz.underlying2
 a2:=Tryz.isAgg2
 z2:=Tryz.sizeOf2
 v2:=Tryz.zeroValue2
 t3:=Tryz.underlying3
 a3:=Tryz.isAgg3
 z3:=Tryz.sizeOf3
 v3:=Tryz.zeroValue3
 t4:=Tryz.underlying4
 a4:=Tryz.isAgg4
 z4:=Tryz.sizeOf4
 v4:=Tryz.zeroValue4
 t5:=Tryz.underlying5
 a5:=Tryz.isAgg5
 z5:=Tryz.sizeOf5
 v5:=Tryz.zeroValue5
 t9:=Tryz.underlying9
 a9:=Tryz.isAgg9
 z9:=Tryz.sizeOf9
 v9:=Tryz.zeroValue9
 t20:=Tryz.underlying20
 a20:=Tryz.isAgg20
 z20:=Tryz.sizeOf20
 v20:=Tryz.zeroValue20
 t21:=Tryz.underlying21
 a21:=Tryz.isAgg21
 z21:=Tryz.sizeOf21
 v21:=Tryz.zeroValue21
 t37:=Tryz.underlying54
 a37:=Tryz.isAgg54
 z37:=Tryz.sizeOf54
 v37:=Tryz.zeroValue54
 t46:=Tryz.underlying39
 a46:=Tryz.isAgg39
 z46:=Tryz.sizeOf39
 v46:=Tryz.zeroValue39
 t51:=Tryz.underlying221
 a51:=Tryz.isAgg221
 z51:=Tryz.sizeOf221
 v51:=Tryz.zeroValue221
 t53:=Tryz.underlying166
 a53:=Tryz.isAgg166
 z53:=Tryz.sizeOf166
 v53:=Tryz.zeroValue166
 t75:=Tryz.underlying59
 a75:=Tryz.isAgg59
 z75:=Tryz.sizeOf59
 v75:=Tryz.zeroValue59
 t76:=Tryz.underlying60
 a76:=Tryz.isAgg60
 z76:=Tryz.sizeOf60
 v76:=Tryz.zeroValue60
 t85:=Tryz.underlying326
 a85:=Tryz.isAgg326
 z85:=Tryz.sizeOf326
 v85:=Tryz.zeroValue326
 t127:=Tryz.underlying93
 a127:=Tryz.isAgg93
 z127:=Tryz.sizeOf93
 v127:=Tryz.zeroValue93
 t143:=Tryz.underlying351
 a143:=Tryz.isAgg351
 z143:=Tryz.sizeOf351
 v143:=Tryz.zeroValue351
 t145:=Tryz.underlying353
 a145:=Tryz.isAgg353
 z145:=Tryz.sizeOf353
 v145:=Tryz.zeroValue353
 t167:=Tryz.underlying325
 a167:=Tryz.isAgg325
 z167:=Tryz.sizeOf325
 v167:=Tryz.zeroValue325
 t168:=Tryz.underlying328
 a168:=Tryz.isAgg328
 z168:=Tryz.sizeOf328
 v168:=Tryz.zeroValue328
 t171:=Tryz.underlying203
 a171:=Tryz.isAgg203
 z171:=Tryz.sizeOf203
 v171:=Tryz.zeroValue203
 t173:=Tryz.underlying206
 a173:=Tryz.isAgg206
 z173:=Tryz.sizeOf206
 v173:=Tryz.zeroValue206
 t175:=Tryz.underlying343
 a175:=Tryz.isAgg343
 z175:=Tryz.sizeOf343
 v175:=Tryz.zeroValue343
 t210:=Tryz.underlying346
 a210:=Tryz.isAgg346
 z210:=Tryz.sizeOf346
 v210:=Tryz.zeroValue346
 t212:=Tryz.underlying243
 a212:=Tryz.isAgg243
 z212:=Tryz.sizeOf243
 v212:=Tryz.zeroValue243
 t213:=Tryz.underlying244
 a213:=Tryz.isAgg244
 z213:=Tryz.sizeOf244
 t232:=Tryz.underlying314
 a232:=Tryz.isAgg314
 z232:=Tryz.sizeOf314
 v232:=Tryz.zeroValue314
 t233:=Tryz.underlying315
 a233:=Tryz.isAgg315
 z233:=Tryz.sizeOf315
 v233:=Tryz.zeroValue315
 g15:=by kernel_rfl
 g16:=by kernel_rfl
 g17:=by kernel_rfl
 g18:=by kernel_rfl
 g19:=by kernel_rfl
 t80:=Tryz.underlying63
 a80:=Tryz.isAgg63
 z80:=Tryz.sizeOf63
 v80:=Tryz.zeroValue63
 i0:=by kernel_rfl
 i2:=by kernel_rfl
 i3:=by kernel_rfl
 i4:=by kernel_rfl
 i5:=by kernel_rfl
 i9:=by kernel_rfl
 i20:=by kernel_rfl
 i21:=by kernel_rfl
 i37:=by kernel_rfl
 i46:=by kernel_rfl
 i51:=by kernel_rfl
 i53:=by kernel_rfl
 i75:=by kernel_rfl
 i76:=by kernel_rfl
 i80:=by kernel_rfl
 i85:=by kernel_rfl
 i127:=by kernel_rfl
 i143:=by kernel_rfl
 i145:=by kernel_rfl
 i167:=by kernel_rfl
 i168:=by kernel_rfl
 i171:=by kernel_rfl
 i173:=by kernel_rfl
 i175:=by kernel_rfl
 i210:=by kernel_rfl
 i212:=by kernel_rfl
 i232:=by kernel_rfl
 i233:=by kernel_rfl
 m15:=by kernel_rfl
 m16:=by kernel_rfl
 m17:=by kernel_rfl
 m18:=by kernel_rfl
 m19:=by kernel_rfl
 c0:=by kernel_rfl
 c2:=by kernel_rfl
 c3:=by kernel_rfl
 c4:=by kernel_rfl
 c5:=by kernel_rfl
 c9:=by kernel_rfl
 c20:=by kernel_rfl
 c21:=by kernel_rfl
 c37:=by kernel_rfl
 c46:=by kernel_rfl
 c51:=by kernel_rfl
 c53:=by kernel_rfl
 c75:=by kernel_rfl
 c76:=by kernel_rfl
 c80:=by kernel_rfl
 c85:=by kernel_rfl
 c127:=by kernel_rfl
 c143:=by kernel_rfl
 c145:=by kernel_rfl
 c167:=by kernel_rfl
 c168:=by kernel_rfl
 c171:=by kernel_rfl
 c173:=by kernel_rfl
 c175:=by kernel_rfl
 c210:=by kernel_rfl
 c212:=by kernel_rfl
 c213:=by kernel_rfl
 c232:=by kernel_rfl
 c233:=by kernel_rfl }
open Go.RowKit in
def Tryz.strconv_Atoi_ok (s : ByteArray) (hmax : s.size <= 9223372036854775806) (v : Int) (h : Lib.atoiAll s.data.toList = .ok v) (w : World) :
    Calls Tryz.prog 223 #[.string s] w fun e w'=>e = .returned (.tuple #[.int .i64 v,.nilIface])/\(w'=w\/ ∃ t,w'=Lib.bytesWorld w 5 t):=Any.strconv_Atoi_ok Tryz.EZ s hmax v h w
open Go.RowKit in
def Tryz.strconv_Atoi_syntax_var (s : ByteArray) (hlim : s.size ≤ 281474976710656) (h : Lib.atoiAll s.data.toList = Lib.atoiAll []) (tp : TypeId) (p : Value) (w : World) (hvar : w.var? Tryz.prog "strconv.ErrSyntax" = some #[.iface tp p]) :
    Calls Tryz.prog 223 #[.string s] w fun e w'=> ∃ N,e = .returned (.tuple #[.int .i64 0,.iface 328 (.pointer (some ⟨N,0,none⟩))])/\w.heap.size<=N/\w'.heap[N]? = some (.cells #[.string ⟨#[65,116,111,105]⟩,.string s,.iface tp p] 346 (0,0))/\Below w.heap.size w w':=Any.strconv_Atoi_syntax_var Tryz.EZ s hlim h tp p w hvar
open Go.RowKit in
def Tryz.strconv_Atoi_range_var (s : ByteArray) (hlim : s.size ≤ 281474976710656) (h : Lib.atoiAll s.data.toList = .range) (tp : TypeId) (p : Value) (w : World) (hvar : w.var? Tryz.prog "strconv.ErrRange" = some #[.iface tp p]) :
    Calls Tryz.prog 223 #[.string s] w fun e w'=> ∃ N,e = .returned (.tuple #[.int .i64 (Lib.atoiSat s.data.toList),.iface 328 (.pointer (some ⟨N,0,none⟩))])/\w.heap.size<=N/\w'.heap[N]? = some (.cells #[.string ⟨#[65,116,111,105]⟩,.string s,.iface tp p] 346 (0,0))/\Below w.heap.size w w':=Any.strconv_Atoi_range_var Tryz.EZ s hlim h tp p w hvar
def Tryz.OV: Go.Shelf.Ren:=⟨fun|219=>102|217=>145|225=>146|224=>147|267=>148|266=>181|314=>182|n=>n,fun|9=>9|3=>3|4=>4|5=>5|46=>39|146=>222|51=>221|n=>n,fun|1=>0|n=>n⟩
def Tryz.X8: Go.Proofs.Lays.n219 Tryz.prog Tryz.OV:= {
 mixed:=by kernel_rfl
 f217:=Tryz.func145.trans (congrArg some (by kernel_rfl))
 f219:=Tryz.func102.trans (congrArg some (by kernel_rfl))
 f224:=Tryz.func147.trans (congrArg some (by kernel_rfl))
 f225:=Tryz.func146.trans (congrArg some (by kernel_rfl))
 f266:=Tryz.func181.trans (congrArg some (by kernel_rfl))
 f267:=Tryz.func148.trans (congrArg some (by kernel_rfl))
 f314:=Tryz.func182.trans (congrArg some (by kernel_rfl))
 t3:=Tryz.underlying3
 a3:=Tryz.isAgg3
 z3:=Tryz.sizeOf3
 v3:=Tryz.zeroValue3
 t4:=Tryz.underlying4
 a4:=Tryz.isAgg4
 z4:=Tryz.sizeOf4
 v4:=Tryz.zeroValue4
 t5:=Tryz.underlying5
 a5:=Tryz.isAgg5
 z5:=Tryz.sizeOf5
 v5:=Tryz.zeroValue5
 t9:=Tryz.underlying9
 a9:=Tryz.isAgg9
 z9:=Tryz.sizeOf9
 v9:=Tryz.zeroValue9
 t46:=Tryz.underlying39
 a46:=Tryz.isAgg39
 z46:=Tryz.sizeOf39
 v46:=Tryz.zeroValue39
 t51:=Tryz.underlying221
 a51:=Tryz.isAgg221
 z51:=Tryz.sizeOf221
 v51:=Tryz.zeroValue221
 t146:=Tryz.underlying222
 a146:=Tryz.isAgg222
 z146:=Tryz.sizeOf222
 v146:=Tryz.zeroValue222
 g1:=by kernel_rfl }
open Go.RowKit Go.Lib in
def Tryz.stringslite_Index_one (s : ByteArray) (c : UInt8) (w : World) :
    Calls Tryz.prog 102 #[.string s,.string ⟨#[c]⟩] w fun e w'=>e = .returned (.int .i64 (Lib.indexByte s.data.toList c))/\w'=w:=Any.stringslite_Index_one Tryz.X8 s c w
def Tryz.OW: Go.Shelf.Ren:=⟨fun|143=>226|219=>102|217=>145|225=>146|224=>147|267=>148|266=>181|314=>182|n=>n,fun|9=>9|3=>3|4=>4|5=>5|46=>39|146=>222|51=>221|n=>n,fun|1=>0|n=>n⟩
def Tryz.X9: Go.Proofs.Lays.n143 Tryz.prog Tryz.OW:= {
 mixed:=by kernel_rfl
 f143:=Tryz.func226.trans (congrArg some (by kernel_rfl))
 f217:=Tryz.func145.trans (congrArg some (by kernel_rfl))
 f219:=Tryz.func102.trans (congrArg some (by kernel_rfl))
 f224:=Tryz.func147.trans (congrArg some (by kernel_rfl))
 f225:=Tryz.func146.trans (congrArg some (by kernel_rfl))
 f266:=Tryz.func181.trans (congrArg some (by kernel_rfl))
 f267:=Tryz.func148.trans (congrArg some (by kernel_rfl))
 f314:=Tryz.func182.trans (congrArg some (by kernel_rfl))
 t3:=Tryz.underlying3
 a3:=Tryz.isAgg3
 z3:=Tryz.sizeOf3
 v3:=Tryz.zeroValue3
 t4:=Tryz.underlying4
 a4:=Tryz.isAgg4
 z4:=Tryz.sizeOf4
 v4:=Tryz.zeroValue4
 t5:=Tryz.underlying5
 a5:=Tryz.isAgg5
 z5:=Tryz.sizeOf5
 v5:=Tryz.zeroValue5
 t9:=Tryz.underlying9
 a9:=Tryz.isAgg9
 z9:=Tryz.sizeOf9
 v9:=Tryz.zeroValue9
 t46:=Tryz.underlying39
 a46:=Tryz.isAgg39
 z46:=Tryz.sizeOf39
 v46:=Tryz.zeroValue39
 t51:=Tryz.underlying221
 a51:=Tryz.isAgg221
 z51:=Tryz.sizeOf221
 v51:=Tryz.zeroValue221
 t146:=Tryz.underlying222
 a146:=Tryz.isAgg222
 z146:=Tryz.sizeOf222
 v146:=Tryz.zeroValue222
 g1:=by kernel_rfl }
open Go.RowKit Go.Lib in
def Tryz.strings_Index_one (s : ByteArray) (c : UInt8) (w : World) :
    Calls Tryz.prog 226 #[.string s,.string ⟨#[c]⟩] w fun e w'=>e = .returned (.int .i64 (Lib.indexByte s.data.toList c))/\w'=w:=Any.strings_Index_one Tryz.X9 s c w
end Go.Proofs
namespace Go.Proofs.YtcjcnfcedihckaaGreatDoor
open Go.AM
set_option maxRecDepth 4000
def k8 {P : Program} {f : FuncId} {args : List AV} {r : AV} (hf : Has P f)
    (h : ∀ (g : aM) (w : World) (σ : ae) (vs : Array Value), Rel g w σ -> args.length = vs.size -> (∀ i, i < args.length -> VR g w (args.getD i .undef) (vs.getD i Go.undef)) ->
      ∃ v,(∀ g' w',VR g' w' r v)/\Calls P f vs w fun e w'=>e = .returned v/\w'.os=w.os/\w'.tape=w.tape/\w'.output=w.output/\w.heap.size<=w'.heap.size/\ ∀ b,b<w.heap.size->w'.heap[b]? = w.heap[b]?):aH P f args r:=by
 intro σ;refine⟨hf,fun g w vs hR hl hv=>?_⟩;obtain⟨v,h1,h2⟩:=h g w σ vs hR hl hv;refine h2.mono ?_;rintro e w' ⟨rfl,k1,k2,k3,k4,k5⟩;obtain⟨r1,r2⟩:=hR.rf k4 k1 k2 k3 k5;exact⟨.ret r,_,σ,r1,r2,h1 _ _,rfl,rfl⟩
def VR.GW{g:aM}{w:World}(s:aG): VR g w (.str s) (.string ⟨s.toArray⟩):=VR.str s
def M8{vs:Array Value}(h:1=vs.size): vs = #[vs.getD 0 Go.undef]:=by
 apply Array.ext
 ·simp[<-h]
 ·intro i h1 h2;simp at h2;subst h2;simp[<-h]
def GX{vs:Array Value}(h:2=vs.size): vs = #[vs.getD 0 Go.undef,vs.getD 1 Go.undef]:=by
 apply Array.ext
 ·simp[<-h]
 ·intro i h1 h2;simp at h2;obtain rfl|rfl:i=0\/i=1:=by omega
  ·simp[<-h]
  ·simp[<-h]
def strconv_Itoa(n:Int)(h0 : -9223372036854775808<=n)(h1:n<=9223372036854775807): aH aE 41 [I n] (.str (Lib.itoa n)):=by
 refine k8 ⟨_,Tryz.func41,by kernel_rfl,by kernel_rfl⟩ fun g w σ vs hR hl hv=>?_;have h2:=hv 0 (by simp);rw[M8 hl];generalize vs.getD 0 Go.undef=v at h2;simp only[bR]at h2;cases h2;refine⟨_,fun g' w'=>VR.GW (Lib.itoa n),(Tryz.strconv_Itoa n h0 h1 w hR.glob.2.1).mono ?_⟩;rintro e w' ⟨rfl,k,os,rfl⟩;refine⟨rfl,rfl,rfl,rfl,by simp[Sort.grow,World.drewN],fun b hb=>?_⟩;simp only[Sort.grow,World.drewN];rw[fj (by simpa using hb)]
def strconv_FormatBool(b:Bool): aH aE 169 [.bool b] (.str (if b then jO else jh)):=by
 refine k8 ⟨_,Tryz.func169,by kernel_rfl,by kernel_rfl⟩ fun g w σ vs hR hl hv=>?_;have h2:=hv 0 (by simp);rw[M8 hl];generalize vs.getD 0 Go.undef=v at h2;simp only[bR]at h2;cases h2;have e:Lib.formatBool b=if b then jO else jh:=by cases b<;>decide
 refine⟨_,fun g' w'=>VR.GW (if b then jO else jh),(Tryz.strconv_FormatBool b w).mono ?_⟩;rintro e w' ⟨rfl,rfl⟩;refine⟨by rw[e],rfl,rfl,rfl,Nat.le_refl _,fun _ _=>rfl⟩
def strings_Join(l:List aG)(sep:aG)(hl:l.length<=2 ^ 40)(hj:(Lib.join l sep).length<=2 ^ 40): aH aE 90 [bI l,.str sep] (.str (Lib.join l sep)):=by
 refine k8 ⟨_,Tryz.func90,by kernel_rfl,by kernel_rfl⟩ fun g w σ vs hR hlen hv=>?_;have h2:=hv 0 (by simp);have h3:=hv 1 (by simp);rw[GX hlen];generalize vs.getD 0 Go.undef=v at h2;generalize vs.getD 1 Go.undef=u at h3;simp only[bR,fm]at h2 h3;cases h3;simp only[bI]at h2;generalize hxs:l.map bj=xs at h2;have below:∀ w':World,RowKit.Below w.heap.size w w'->w'.os=w.os/\w'.tape=w.tape/\w'.output=w.output/\w.heap.size<=w'.heap.size/\ ∀ b,b<w.heap.size->w'.heap[b]? = w.heap[b]?:=fun w' h=>⟨h.os,h.tape,h.output,h.size,h.block⟩;cases h2 with
 | kg f el b cap hf =>
   obtain rfl:l=[]:=by cases l<;>simp at hxs;rfl
   refine⟨_,fun g' w'=>VR.GW (Lib.join [] sep),(Tryz.strings_Join_none b cap ⟨sep.toArray⟩ w).mono ?_⟩;rintro e w' ⟨rfl,rfl⟩;refine⟨rfl,rfl,rfl,rfl,Nat.le_refl _,fun _ _=>rfl⟩
 | aF f el xs b off cap hi hf hx ft hc h =>
   subst hxs;have Am:=hR.lt b hi
   have hm:(l.map fun s=>(⟨s.toArray⟩:ByteArray)).map (·.data.toList)=l:=by
    rw[List.map_map];conv=>rhs;rw[<-List.map_id l]
    rfl
   have hcells:∀ (j:Nat) x,(l.map fun s=>(⟨s.toArray⟩:ByteArray))[j]? = some x->w.cell? ⟨b,off+j,none⟩=some (.string x):=fun j x hx'=>by
    obtain⟨hj',rfl⟩:=aP.1 hx';have mX:j<l.length:=by simpa using hj'
    have c1:=hc j 0 (by simpa using mX) (by decide);have c2:=h j 0 (by simpa using mX) (by decide);have e1:off+(j*(⟨false,1⟩:El).sz+0)=off+j:=by show off+(j*1+0)=off+j;omega
    rw[e1]at c1 c2;obtain⟨v,hv⟩:=eM.1 c1;have e2:((l.map bj).getD j .undef).cell 0 = .str (l[j]):=by simp[mX,bj,AV.cell]
    rw[e2]at c2;simp only[dP,hv,bB]at c2;cases c2;rw[hv];simp
   have:=Tryz.strings_Join b off cap (l.map fun s=>(⟨s.toArray⟩:ByteArray)) ⟨sep.toArray⟩ w hcells Am (by simp;omega) (by simpa using hx) (by rw[hm];show(Lib.join l sep).length<=_;omega);rw[hm]at this;simp only[bS]at this ⊢;refine⟨_,fun g' w'=>VR.GW (Lib.join l sep),this.mono ?_⟩;rintro e w' ⟨rfl,hb⟩;exact⟨rfl,below w' hb⟩
def E0{m:Nat}(h:10<=m): Lib.decDigits m=Lib.decDigits (m / 10)++[UInt8.ofNat (48+m % 10)]:=by
 conv=>lhs;rw[Lib.decDigits]
 rw[dif_neg (by omega)]
def nr{m:Nat}(h:m<10): Lib.decDigits m=[UInt8.ofNat (48+m)]:=by rw[Lib.decDigits,dif_pos h]
def zC(k:Nat): ∀ u:Nat,u<10 ^ (k+1)->(Lib.decDigits u).length<=k+1:=by
 induction k with
 | zero=>intro u h;rw[nr (by omega)];simp
 | succ k ih =>
   intro u h;by_cases h9:u<10
   ·rw[nr h9];simp
   ·rw[E0 (by omega),aC];have:=ih (u / 10) (by rw[Nat.pow_succ]at h;omega);simp only[List.length_cons,List.length_nil];omega
def E4(m:Nat): Lib.itoa (m:Int)=Lib.decDigits m:=by unfold Lib.itoa;rw[if_neg (by omega)];rfl
def itoa_neg{m:Nat}(h:0<m): Lib.itoa (-(m:Int))=45::Lib.decDigits m:=by unfold Lib.itoa;rw[if_pos (by omega)];simp
@[go_sem] def abE {P : Program} {f : Bool} {σ : ae} {K Kp : AV -> ae -> Prop} (k : Int) (h : 0 <= k) (h' : k <= 255) : dH P (.sj (.c (.aF f ⟨false, 1⟩ [.int .u8 k]))) σ (.mk : Tg (K, Kp)) = K (.str [UInt8.ofNat k.toNat]) σ := by
  have:(UInt8.ofNat k.toNat).toNat=k.toNat:=by rw[UInt8.toNat_ofNat'];omega
  have e:AV.int .u8 k=AV.int .u8 (UInt8.ofNat k.toNat).toNat:=by rw[this];congr 1;omega
  rw[e];exact Rn _
def B3(m:Nat): (m<=9223372036854775807->aH aE 31 [I m] (.str (Lib.itoa m)))/\(m<=9223372036854775808->aH aE 31 [I (-(m:Int))] (.str (Lib.itoa (-(m:Int))))):=by
 induction m using Nat.strongRecOn with
 | _ m ih =>
   by_cases h9:m<=9
   ·constructor
    ·intro _;rw[E4,nr (by omega)];refine aJ lW ?_;intro Q au aA aB;repeat' first|refine aq ?_|refine ak ?_ ?_<;>intro hw<;>try omega|fail
     all_goals first|(exfalso;omega)|(refine aL ?_ rfl;refine congrArg (fun n:Nat=>AV.str [UInt8.ofNat n]) ?_;omega)
    ·intro _;rcases Nat.eq_zero_or_pos m with rfl|hm
     ·have e:Lib.itoa (-((0:Nat):Int))=[48]:=by rw[show (-((0:Nat):Int))=((0:Nat):Int) from rfl,E4,nr (by omega)];rfl
      rw[e];refine aJ lW ?_;intro Q au aA aB;repeat' first|refine aq ?_|refine ak ?_ ?_<;>intro hw<;>try omega|fail
      all_goals first|(exfalso;omega)|exact aL rfl rfl
     ·rw[itoa_neg hm,nr (by omega)];refine aJ lW ?_;intro Q au aA aB;repeat' first|refine aq ?_|refine ak ?_ ?_<;>intro hw<;>try omega|fail
      all_goals first|(exfalso;omega)|(refine aL ?_ rfl;refine congrArg (fun n:Nat=>AV.str (45::[UInt8.ofNat n])) ?_;omega)
   ·obtain⟨i1,i2⟩:=ih (m / 10) (by omega);constructor
    ·intro hm;have i1:=i1 (by omega);rw[E4]at i1 ⊢;rw[E0 (by omega)];have e1:(m:Int) / 10=((m / 10:Nat):Int):=by omega
     have hl:=zC 19 (m / 10) (by omega);generalize Lib.decDigits (m / 10)=D at *;refine aJ lW ?_;intro Q au aA aB;repeat' first|simp (disch:=omega) only[go_sem,au,aA,aB,e1]|refine aq ?_|refine ak ?_ ?_<;>intro hw<;>try omega|fail
     all_goals first|(exfalso;omega)|(refine aL ?_ rfl;refine congrArg (fun n:Nat=>AV.str (D++[UInt8.ofNat n])) ?_;omega)
    ·intro hm;have i2:=i2 (by omega);rw[itoa_neg (by omega)]at i2 ⊢;rw[E0 (by omega)];have e1:(-(m:Int)).tdiv 10 = -((m / 10:Nat):Int):=by rw[Int.neg_tdiv,Int.tdiv_eq_ediv_of_nonneg (by omega)];omega
     have hl:=zC 19 (m / 10) (by omega);generalize Lib.decDigits (m / 10)=D at *;have e2:(-(m:Int)).tmod 10 = -((m % 10:Nat):Int):=by rw[Int.neg_tmod,Int.tmod_eq_emod_of_nonneg (by omega)];omega
     refine aJ lW ?_;intro Q au aA aB;repeat' first|simp (disch:=omega) only[go_sem,au,aA,aB,e1,e2]|refine aq ?_|refine ak ?_ ?_<;>intro hw<;>try omega|fail
     all_goals first|(exfalso;omega)|(refine aL ?_ rfl;refine congrArg (fun n:Nat=>AV.str (45::(D++[UInt8.ofNat n]))) ?_;omega)
def qi(n:Int)(h0 : -9223372036854775808<=n)(h1:n<=9223372036854775807): aH aE 31 [I n] (.str (Lib.itoa n)):=by
 by_cases h:0<=n
 ·obtain⟨m,rfl⟩:∃ m:Nat,n=m:=⟨n.toNat,by omega⟩;exact(B3 m).1 (by omega)
 ·obtain⟨m,rfl⟩:∃ m:Nat,n = -(m:Int):=⟨(-n).toNat,by omega⟩;exact(B3 m).2 (by omega)
def gi(c:UInt8): aG:=if c.toNat=34\/c.toNat=92 then [92,c]else [c]
def jQ(s:aG): aG:=34::(s.flatMap gi++[34])
def GY{s:aG}{i:Nat}(h:i<s.length): (s.take (i+1)).flatMap gi=(s.take i).flatMap gi++gi (s.getD i 0):=by
 rw[List.take_succ_eq_append_getElem h,List.flatMap_append];simp[h]
def B4(s:aG): (s.flatMap gi).length<=2*s.length:=by
 induction s with
 | nil=>simp
 | cons c r ih =>
   rw[fQ,aC,List.length_cons];have:(gi c).length<=2:=by unfold gi;split<;>simp
   omega
def au_{p:Prop}(h:p:=by simp (disch:=omega) only[dU,dm,and_true,go_sem,Bh,Ek,Bp,Nat.reduceAdd,Nat.reduceBEq,↓reduceIte,Int.natCast_add,Int.cast_ofNat_Int]<;>(try trivial)<;>(try omega)<;>(try (repeat (first|trivial|(refine And.intro ?_ ?_)|(congr 1;omega))))<;>(try (simp;done))): p:=h
def OX(s:aG)(hs:s.length<=2 ^ 38): aH aE 112 [.str s] (.str (jQ s)):=by
 refine aJ Iv ?_;intro Q au aA aB;repeat' first|refine aq ?_|refine ak ?_ ?_<;>intro hw<;>try omega|fail
 with_reducible refine bn [3,4,5,6,7,8,9,10,11,12,13,14,15,16,17,18,19,20,21,22,23,24,25,26,27,28,29] (fun i:Nat=>[(4,I i),(3,.str (34::(s.take i).flatMap gi))]) (fun _=>[]) (fun i=>i<=s.length) (fun i=>s.length-i) (0) ?_ ?_ ?_ ?_
 ·simp
 ·rfl
 ·exact at_
 rintro i r h1;have hq:=B4 (s.take i);rw[eY]at hq;have Ds:((s.take i).flatMap gi).length<=2 ^ 40:=by omega
 by_cases hi:i<s.length
 ·have ht:=GY hi;generalize (s.take i).flatMap gi=acc at *;by_cases hc:(s.getD i 0).toNat=34\/(s.getD i 0).toNat=92
  ·rw[gi,if_pos hc]at ht;repeat' first|refine aq ?_|refine ak ?_ ?_<;>intro hw<;>try omega|fail
   all_goals first
    | (refine ⟨i + 1, ?_, ?_, by first | rfl | (simp [go_sem]; done), bL, ?_⟩
       ·dsimp only;omega
       ·dsimp only;omega
       ·dsimp only;rw[ht];exact au_)
    | exact bh
  ·rw[gi,if_neg hc]at ht;repeat' first|refine aq ?_|refine ak ?_ ?_<;>intro hw<;>try omega|fail
   all_goals first
    | (refine ⟨i + 1, ?_, ?_, by first | rfl | (simp [go_sem]; done), bL, ?_⟩
       ·dsimp only;omega
       ·dsimp only;omega
       ·dsimp only;rw[ht];exact au_)
    | exact bh
 ·have n5:s.take i=s:=aT (by omega);rw[n5]at Ds ⊢;unfold jQ at au aA aB;generalize s.flatMap gi=acc at *;repeat' first|refine aq ?_|refine ak ?_ ?_<;>intro hw<;>try omega|fail
  all_goals first|(refine aL ?_ rfl;simp;done)|exact bh
def eJ(v:eu): aG:=if v.kind=1 then Lib.itoa v.n else if v.kind=2 then jQ v.s else if v.kind=3 then(if v.n=1 then jO else jh)else lE
def GZ(v:eu)(h0 : -9223372036854775808<=v.n)(h1:v.n<=9223372036854775807)(hs:v.s.length<=2 ^ 38): aH aE 71 [eR v] (.str (eJ v)):=by
 have d1:=qi v.n h0 h1;have d2:=OX v.s hs;have hS:eJ v=if v.kind=1 then Lib.itoa v.n else if v.kind=2 then jQ v.s else if v.kind=3 then(if v.n=1 then jO else jh)else lE:=rfl
 rw[hS];clear hS;generalize Lib.itoa v.n=t1 at *;generalize jQ v.s=t2 at *;simp only[eR];refine aJ KO ?_;intro Q au aA aB;repeat' first|refine aq ?_|refine ak ?_ ?_<;>intro hw<;>try omega|fail
 all_goals (refine aL ?_ rfl;simp_all[jO,jh,lE])
