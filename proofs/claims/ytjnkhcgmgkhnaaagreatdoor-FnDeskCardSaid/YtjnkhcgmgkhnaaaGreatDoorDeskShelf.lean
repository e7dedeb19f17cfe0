import Derived.Test.YtjnkhcgmgkhnaaaGreatDoorDeskChunk
import Derived.Shelf.Strings.Builder1
import Derived.Shelf.Strings.Builder2
import Derived.Shelf.Strings.OnBuilder
import Derived.Shelf.Small.Bits
import Derived.Shelf.Small.Strs
import Derived.Shelf.Strings.BuilderF
import Derived.Shelf.Strings.BuilderK
import Derived.Shelf.Utf8.RuneCount
import Derived.Shelf.Strings.Builder2Cap
import Derived.Shelf.Strconv.Itoa0
import Derived.Shelf.Strconv.Itoa1
import Derived.Shelf.LaysM
import Derived.Shelf.Strconv.Itoa2
import Derived.Shelf.Strconv.Itoa3
import Derived.Shelf.Strconv.Itoa4
import Derived.Shelf.Strconv.ParseIntEmpty
import Derived.Shelf.Strconv.Clone
import Derived.Shelf.Strconv.SyntaxError
import Derived.Shelf.LaysC
import Derived.Shelf.Strconv.ToError
import Derived.Shelf.Strconv.Lower
import Derived.Shelf.Strconv.ParseUint10
import Derived.Shelf.Strconv.ParseUint10Empty
import Derived.Shelf.Strconv.ParseUint10Any
import Derived.Shelf.Strconv.ParseInt10
import Derived.Shelf.Strconv.RangeError
import Derived.Shelf.Strconv.ToErrorRange
import Derived.Shelf.Strconv.ParseUintEmpty
import Derived.Shelf.Strconv.ParseUint10b64
import Derived.Shelf.Strconv.ParseUint10b32
import Derived.Shelf.Strconv.ParseUint10b16
import Derived.Shelf.Strconv.ParseUint10b8
import Derived.Shelf.Strconv.ParseUint10At
import Derived.Shelf.Strconv.ParseInt10At64
import Derived.Shelf.Strconv.ParseInt10At32
import Derived.Shelf.Strconv.ParseInt10At16
import Derived.Shelf.Strconv.ParseInt10At8
import Derived.Shelf.Strconv.ParseInt10All
import Derived.Shelf.Strconv.ParseIntPublic10
import Derived.Shelf.Strconv.ErrVarParseInt
import Derived.Shelf.Strings.Search1
import Derived.Shelf.Strings.Search2
import Derived.Shelf.Strings.Search3
import Derived.Shelf.Strings.Cut
import Derived.Shelf.Strings.Count
import Derived.Shelf.Strings.Shaped
import Derived.Shelf.Strings.LastIndex
import Derived.Shelf.Strings.Split
import Derived.Shelf.Strings.SplitShaped
import Derived.Shelf.Unicode.Decode
import Derived.Shelf.Strings.RuneCount
import Derived.Shelf.Strings.Explode
import Derived.Shelf.Bits.Mul64
import Derived.Shelf.Unicode.DecodeSlow
import Derived.Shelf.Unicode.DecodeAny
import Derived.Shelf.Strings.BuilderCap
import Derived.Shelf.SlicesE.Clone
import Derived.WalkSmall
import Derived.Lib.AppendIntMem
import Derived.Lib.ItoaLen
import Derived.StillTailTactics
import Derived.Shelf.SlSortCmp.NoneTotal
import Derived.Test.YtjnkhcgmgkhnaaaGreatDoorProg
set_option linter.all false
open Go renaming World→Ε,Calls→abq
open Go.Lib renaming parseIntB→aaq,countB→ab3
open Go.Proofs.Builder renaming Extra→afT
open Go.Proofs.Lays renaming n156→ag5,n149→aha,n146→ahb
open Go.Proofs.LaysC renaming n174→agQ
open Go.Proofs.LaysM renaming n173→agI
open Go.Proofs.Tryz renaming prog→ν,underlying5→abe,underlying9→abn,zeroValue5→abo,underlying3→abM,underlying4→abN,zeroValue3→abX,zeroValue4→abY,zeroValue9→abZ,sizeOf5→ab4,isAgg5→aca,underlying0→acr,sizeOf3→acx,sizeOf4→acy,sizeOf9→acz,zeroValue0→acB,isAgg3→acN,isAgg4→acO,isAgg9→acP,underlying210→ade,underlying218→adf,sizeOf0→adp,underlying20→adq,underlying22→adr,zeroValue210→adt,zeroValue218→adu,zeroValue20→adD,zeroValue22→adE,isAgg0→adH,sizeOf210→adY,sizeOf218→adZ,sizeOf20→aei,sizeOf22→aej,isAgg210→aek,isAgg218→ael,isAgg20→aeC,isAgg22→aeD,underlying163→afg,underlying148→afi,underlying194→afj,underlying197→afk,underlying217→afl,underlying219→afm,underlying270→afn,underlying271→afo,underlying63→afw,underlying97→afx,zeroValue163→afy,zeroValue148→afz,zeroValue194→afA,zeroValue197→afB,zeroValue217→afC,zeroValue270→afD,zeroValue271→afE,underlying21→afF,zeroValue63→afU,zeroValue97→afV,underlying2→afW,zeroValue21→afX,zeroValue2→agc,sizeOf163→agt,sizeOf148→agu,sizeOf194→agv,sizeOf197→agw,sizeOf217→agx,sizeOf219→agy,sizeOf270→agz,sizeOf271→agA,sizeOf63→agF,sizeOf97→agG,isAgg163→agH,isAgg148→agJ,isAgg194→agK,isAgg197→agL,isAgg217→agM,isAgg219→agN,isAgg270→agO,isAgg271→agP,sizeOf21→agR,isAgg63→ag6,isAgg97→ag7,sizeOf2→ag8,isAgg21→ag9,isAgg2→aho
open Go.Shelf renaming Ren→abR
namespace Go.Proofs
open Go.Shelf
def Tryz.C2:abR:=⟨fun|169=>49|n=>n,fun|70=>91|9=>9|0=>0|72=>93|37=>22|127=>163|3=>3|5=>5|n=>n,fun|n=>n⟩
theorem Tryz.ug:afT ν Tryz.C2:={
 sizeBuilder:=by kernel_rfl
 liesBuilder:=by kernel_rfl
 t5:=abe
 a5:=aca
 z5:=ab4
 v5:=abo
 infoByte:=by kernel_rfl
 cellsByte:=by kernel_rfl
 sizeByte:=by kernel_rfl
 neB5:=by decide}
def Tryz.vD:abR:=⟨fun|156=>90|165=>126|166=>47|169=>49|240=>96|241=>148|276=>137|277=>180|n=>n,fun|31=>63|9=>9|3=>3|4=>4|0=>0|20=>20|72=>93|76=>98|70=>91|37=>22|75=>97|127=>163|164=>205|5=>5|80=>101|n=>n,fun|n=>n⟩
theorem Tryz.FY:ag5 ν Tryz.vD:={
 mixed:=by kernel_rfl
 f156:=Tryz.func90.trans (congrArg some (by kernel_rfl))
 f165:=Tryz.func126.trans (congrArg some (by kernel_rfl))
 f166:=Tryz.func47.trans (congrArg some (by kernel_rfl))
 f169:=Tryz.func49.trans (congrArg some (by kernel_rfl))
 f240:=Tryz.func96.trans (congrArg some (by kernel_rfl))
 f241:=Tryz.func148.trans (congrArg some (by kernel_rfl))
 f276:=Tryz.func137.trans (congrArg some (by kernel_rfl))
 f277:=Tryz.func180.trans (congrArg some (by kernel_rfl))
 t0:=acr
 a0:=adH
 z0:=adp
 v0:=acB
 t3:=abM
 a3:=acN
 z3:=acx
 v3:=abX
 t4:=abN
 a4:=acO
 z4:=acy
 v4:=abY
 t9:=abn
 a9:=acP
 z9:=acz
 v9:=abZ
 t20:=adq
 a20:=aeC
 z20:=aei
 v20:=adD
 t31:=afw
 a31:=ag6
 z31:=agF
 v31:=afU
 t37:=adr
 a37:=aeD
 z37:=aej
 v37:=adE
 t70:=Tryz.underlying91
 a70:=Tryz.isAgg91
 z70:=Tryz.sizeOf91
 v70:=Tryz.zeroValue91
 t72:=Tryz.underlying93
 a72:=Tryz.isAgg93
 z72:=Tryz.sizeOf93
 v72:=Tryz.zeroValue93
 t75:=afx
 a75:=ag7
 z75:=agG
 v75:=afV
 t76:=Tryz.underlying98
 a76:=Tryz.isAgg98
 z76:=Tryz.sizeOf98
 v76:=Tryz.zeroValue98
 t127:=afg
 a127:=agH
 z127:=agt
 v127:=afy
 t164:=Tryz.underlying205
 a164:=Tryz.isAgg205
 z164:=Tryz.sizeOf205
 v164:=Tryz.zeroValue205}
theorem Tryz.pb:afT ν Tryz.vD:={
 sizeBuilder:=by kernel_rfl
 liesBuilder:=by kernel_rfl
 t5:=abe
 a5:=aca
 z5:=ab4
 v5:=abo
 infoByte:=by kernel_rfl
 cellsByte:=by kernel_rfl
 sizeByte:=by kernel_rfl
 neB5:=by decide}
open Go.RowKit in
theorem Tryz.strings_Join_none (a:Option Addr)(c:Nat)(sep:ByteArray)(w:Ε):
 abq ν 90 #[.slice a 0 c,.string sep] w λe w'=>e= .returned (.string ⟨#[]⟩)/\w'=w:=Any.strings_Join_none Tryz.FY Tryz.pb a c sep w
open Go.RowKit in
theorem Tryz.strings_Join (bk o c:Nat)(xs:List ByteArray)(sep:ByteArray)(w:Ε)(sP: ∀(j:Nat) x,xs[j]? =some x->w.cell? ⟨bk,o+j,none⟩=some (.string x))(QX:bk<w.heap.size)(hN:xs.length<=140737488355328)(hcap:xs.length<=c)(hlen:(Lib.join (xs.map (·.data.toList)) sep.data.toList).length<=140737488355328):
 abq ν 90 #[.slice (some ⟨bk,o,none⟩) xs.length c,.string sep] w λe w'=>e= .returned (.string ⟨(Lib.join (xs.map (·.data.toList)) sep.data.toList).toArray⟩)/\Below w.heap.size w w':=Any.strings_Join Tryz.FY Tryz.pb bk o c xs sep w sP QX hN hcap hlen
def Tryz.AX:abR:=⟨fun|173=>44|246=>93|283=>127|284=>128|285=>129|286=>130|129=>150|317=>149|318=>151|319=>152|320=>153|337=>181|338=>182|n=>n,fun|2=>2|3=>3|9=>9|4=>4|171=>194|0=>0|53=>148|37=>22|5=>5|173=>197|212=>217|51=>218|20=>20|213=>219|46=>210|232=>270|233=>271|n=>n,fun|17=>1|18=>2|19=>3|n=>n⟩
theorem Tryz.Jd:agI ν Tryz.AX:={
 mixed:=by kernel_rfl
 f129:=Tryz.func150.trans (congrArg some (by kernel_rfl))
 f173:=Tryz.func44.trans (congrArg some (by kernel_rfl))
 f246:=Tryz.func93.trans (congrArg some (by kernel_rfl))
 f283:=Tryz.func127.trans (congrArg some (by kernel_rfl))
 f284:=Tryz.func128.trans (congrArg some (by kernel_rfl))
 f285:=Tryz.func129.trans (congrArg some (by kernel_rfl))
 f286:=Tryz.func130.trans (congrArg some (by kernel_rfl))
 f317:=Tryz.func149.trans (congrArg some (by kernel_rfl))
 f318:=Tryz.func151.trans (congrArg some (by kernel_rfl))
 f319:=Tryz.func152.trans (congrArg some (by kernel_rfl))
 f320:=Tryz.func153.trans (congrArg some (by kernel_rfl))
 f337:=Tryz.func181.trans (congrArg some (by kernel_rfl))
 f338:=Tryz.func182.trans (congrArg some (by kernel_rfl))
 t0:=acr
 a0:=adH
 z0:=adp
 v0:=acB
 t2:=afW
 a2:=aho
 z2:=ag8
 v2:=agc
 t3:=abM
 a3:=acN
 z3:=acx
 v3:=abX
 t4:=abN
 a4:=acO
 z4:=acy
 v4:=abY
 t5:=abe
 a5:=aca
 z5:=ab4
 v5:=abo
 t9:=abn
 a9:=acP
 z9:=acz
 v9:=abZ
 t20:=adq
 a20:=aeC
 z20:=aei
 v20:=adD
 t37:=adr
 a37:=aeD
 z37:=aej
 v37:=adE
 t46:=ade
 a46:=aek
 z46:=adY
 v46:=adt
 t51:=adf
 a51:=ael
 z51:=adZ
 v51:=adu
 t53:=afi
 a53:=agJ
 z53:=agu
 v53:=afz
 t171:=afj
 a171:=agK
 z171:=agv
 v171:=afA
 t173:=afk
 a173:=agL
 z173:=agw
 v173:=afB
 t212:=afl
 a212:=agM
 z212:=agx
 v212:=afC
 t213:=afm
 a213:=agN
 z213:=agy
 t232:=afn
 a232:=agO
 z232:=agz
 v232:=afD
 t233:=afo
 a233:=agP
 z233:=agA
 v233:=afE
 g17:=by kernel_rfl
 g18:=by kernel_rfl
 g19:=by kernel_rfl
 i0:=by kernel_rfl
 i2:=by kernel_rfl
 i3:=by kernel_rfl
 i4:=by kernel_rfl
 i5:=by kernel_rfl
 i9:=by kernel_rfl
 i20:=by kernel_rfl
 i37:=by kernel_rfl
 i46:=by kernel_rfl
 i51:=by kernel_rfl
 i53:=by kernel_rfl
 i171:=by kernel_rfl
 i173:=by kernel_rfl
 i212:=by kernel_rfl
 i232:=by kernel_rfl
 i233:=by kernel_rfl
 m17:=by kernel_rfl
 m18:=by kernel_rfl
 m19:=by kernel_rfl}
open Go.RowKit Go.Sort Go.Lib in
theorem Tryz.strconv_FormatInt_10 (n:Int)(h0: -9223372036854775808<=n)(h1:n<=9223372036854775807)(w:Ε)(We:Lib.TabIs ν w "internal/strconv.uint64pow10" .u64 Lib.pow10Tab):
 abq ν 44 #[.int .i64 n,.int .i64 10] w λe w'=>e= .returned (.string ⟨(Lib.itoa n).toArray⟩)/\ ∃k os,w'=grow (w.drewN k) os:=Any.strconv_FormatInt_10 Tryz.Jd n h0 h1 w We
def Tryz.AY:abR:=⟨fun|174=>143|247=>174|245=>175|287=>206|279=>207|280=>208|281=>209|282=>210|321=>220|322=>221|316=>222|171=>224|205=>223|243=>229|246=>93|283=>127|284=>128|285=>129|286=>130|129=>150|317=>149|318=>151|319=>152|320=>153|337=>181|338=>182|n=>n,fun|9=>9|3=>3|2=>2|75=>97|85=>213|4=>4|167=>263|5=>5|53=>148|175=>264|46=>210|168=>266|37=>22|0=>0|210=>290|21=>21|127=>163|145=>301|143=>299|171=>194|173=>197|212=>217|51=>218|20=>20|213=>219|232=>270|233=>271|80=>101|n=>n,fun|15=>4|16=>5|17=>1|18=>2|19=>3|n=>n⟩
theorem Tryz.xM:agQ ν Tryz.AY:={
 mixed:=by kernel_rfl
 f129:=Tryz.func150.trans (congrArg some (by kernel_rfl))
 f171:=Tryz.func224.trans (congrArg some (by kernel_rfl))
 f174:=Tryz.func143.trans (congrArg some (by kernel_rfl))
 f205:=Tryz.func223.trans (congrArg some (by kernel_rfl))
 f243:=Tryz.func229.trans (congrArg some (by kernel_rfl))
 f245:=Tryz.func175.trans (congrArg some (by kernel_rfl))
 f246:=Tryz.func93.trans (congrArg some (by kernel_rfl))
 f247:=Tryz.func174.trans (congrArg some (by kernel_rfl))
 f279:=Tryz.func207.trans (congrArg some (by kernel_rfl))
 f280:=Tryz.func208.trans (congrArg some (by kernel_rfl))
 f281:=Tryz.func209.trans (congrArg some (by kernel_rfl))
 f282:=Tryz.func210.trans (congrArg some (by kernel_rfl))
 f283:=Tryz.func127.trans (congrArg some (by kernel_rfl))
 f284:=Tryz.func128.trans (congrArg some (by kernel_rfl))
 f285:=Tryz.func129.trans (congrArg some (by kernel_rfl))
 f286:=Tryz.func130.trans (congrArg some (by kernel_rfl))
 f287:=Tryz.func206.trans (congrArg some (by kernel_rfl))
 f316:=Tryz.func222.trans (congrArg some (by kernel_rfl))
 f317:=Tryz.func149.trans (congrArg some (by kernel_rfl))
 f318:=Tryz.func151.trans (congrArg some (by kernel_rfl))
 f319:=Tryz.func152.trans (congrArg some (by kernel_rfl))
 f320:=Tryz.func153.trans (congrArg some (by kernel_rfl))
 f321:=Tryz.func220.trans (congrArg some (by kernel_rfl))
 f322:=Tryz.func221.trans (congrArg some (by kernel_rfl))
 f337:=Tryz.func181.trans (congrArg some (by kernel_rfl))
 f338:=Tryz.func182.trans (congrArg some (by kernel_rfl))
 t0:=acr
 a0:=adH
 z0:=adp
 v0:=acB
 t2:=afW
 a2:=aho
 z2:=ag8
 v2:=agc
 t3:=abM
 a3:=acN
 z3:=acx
 v3:=abX
 t4:=abN
 a4:=acO
 z4:=acy
 v4:=abY
 t5:=abe
 a5:=aca
 z5:=ab4
 v5:=abo
 t9:=abn
 a9:=acP
 z9:=acz
 v9:=abZ
 t20:=adq
 a20:=aeC
 z20:=aei
 v20:=adD
 t21:=afF
 a21:=ag9
 z21:=agR
 v21:=afX
 t37:=adr
 a37:=aeD
 z37:=aej
 v37:=adE
 t46:=ade
 a46:=aek
 z46:=adY
 v46:=adt
 t51:=adf
 a51:=ael
 z51:=adZ
 v51:=adu
 t53:=afi
 a53:=agJ
 z53:=agu
 v53:=afz
 t75:=afx
 a75:=ag7
 z75:=agG
 v75:=afV
 t85:=Tryz.underlying213
 a85:=Tryz.isAgg213
 z85:=Tryz.sizeOf213
 v85:=Tryz.zeroValue213
 t127:=afg
 a127:=agH
 z127:=agt
 v127:=afy
 t143:=Tryz.underlying299
 a143:=Tryz.isAgg299
 z143:=Tryz.sizeOf299
 v143:=Tryz.zeroValue299
 t145:=Tryz.underlying301
 a145:=Tryz.isAgg301
 z145:=Tryz.sizeOf301
 v145:=Tryz.zeroValue301
 t167:=Tryz.underlying263
 a167:=Tryz.isAgg263
 z167:=Tryz.sizeOf263
 v167:=Tryz.zeroValue263
 t168:=Tryz.underlying266
 a168:=Tryz.isAgg266
 z168:=Tryz.sizeOf266
 v168:=Tryz.zeroValue266
 t171:=afj
 a171:=agK
 z171:=agv
 v171:=afA
 t173:=afk
 a173:=agL
 z173:=agw
 v173:=afB
 t175:=Tryz.underlying264
 a175:=Tryz.isAgg264
 z175:=Tryz.sizeOf264
 v175:=Tryz.zeroValue264
 t210:=Tryz.underlying290
 a210:=Tryz.isAgg290
 z210:=Tryz.sizeOf290
 v210:=Tryz.zeroValue290
 t212:=afl
 a212:=agM
 z212:=agx
 v212:=afC
 t213:=afm
 a213:=agN
 z213:=agy
 t232:=afn
 a232:=agO
 z232:=agz
 v232:=afD
 t233:=afo
 a233:=agP
 z233:=agA
 v233:=afE
 g15:=by kernel_rfl
 g16:=by kernel_rfl
 g17:=by kernel_rfl
 g18:=by kernel_rfl
 g19:=by kernel_rfl
 t80:=Tryz.underlying101
 a80:=Tryz.isAgg101
 z80:=Tryz.sizeOf101
 v80:=Tryz.zeroValue101
 i0:=by kernel_rfl
 i2:=by kernel_rfl
 i3:=by kernel_rfl
 i4:=by kernel_rfl
 i5:=by kernel_rfl
 i9:=by kernel_rfl
 i20:=by kernel_rfl
 i21:=by kernel_rfl
 i37:=by kernel_rfl
 i46:=by kernel_rfl
 i51:=by kernel_rfl
 i53:=by kernel_rfl
 i75:=by kernel_rfl
 i80:=by kernel_rfl
 i85:=by kernel_rfl
 i127:=by kernel_rfl
 i143:=by kernel_rfl
 i145:=by kernel_rfl
 i167:=by kernel_rfl
 i168:=by kernel_rfl
 i171:=by kernel_rfl
 i173:=by kernel_rfl
 i175:=by kernel_rfl
 i210:=by kernel_rfl
 i212:=by kernel_rfl
 i232:=by kernel_rfl
 i233:=by kernel_rfl
 m15:=by kernel_rfl
 m16:=by kernel_rfl
 m17:=by kernel_rfl
 m18:=by kernel_rfl
 m19:=by kernel_rfl
 c0:=by kernel_rfl
 c2:=by kernel_rfl
 c3:=by kernel_rfl
 c4:=by kernel_rfl
 c5:=by kernel_rfl
 c9:=by kernel_rfl
 c20:=by kernel_rfl
 c21:=by kernel_rfl
 c37:=by kernel_rfl
 c46:=by kernel_rfl
 c51:=by kernel_rfl
 c53:=by kernel_rfl
 c75:=by kernel_rfl
 c80:=by kernel_rfl
 c85:=by kernel_rfl
 c127:=by kernel_rfl
 c143:=by kernel_rfl
 c145:=by kernel_rfl
 c167:=by kernel_rfl
 c168:=by kernel_rfl
 c171:=by kernel_rfl
 c173:=by kernel_rfl
 c175:=by kernel_rfl
 c210:=by kernel_rfl
 c212:=by kernel_rfl
 c213:=by kernel_rfl
 c232:=by kernel_rfl
 c233:=by kernel_rfl}
open Go.RowKit in
theorem Tryz.strconv_ParseInt_10_at64_ok (s:ByteArray)(Ae:s.size<=9223372036854775806)(v:Int)(h:aaq 64 s.data.toList= .ok v)(w:Ε):
 abq ν 143 #[.string s,.int .i64 10,.int .i64 64] w λe w'=>e= .returned (.tuple #[.int .i64 v,.nilIface])/\(w'=w\/ ∃t,w'=Lib.bytesWorld w 5 t):=Any.strconv_ParseInt_10_at64_ok Tryz.xM s Ae v h w
open Go.RowKit in
theorem Tryz.strconv_ParseInt_10_at64_syntax (s:ByteArray)(O7:s.size<=281474976710656)(h:aaq 64 s.data.toList=aaq 64 [])(ev:Value)(w:Ε)(hv:w.cell? ⟨4,0,none⟩=some ev)(G9:ev= .nilIface\/ ∃te pe,ev= .iface te pe):
 abq ν 143 #[.string s,.int .i64 10,.int .i64 64] w λe w'=> ∃N,e= .returned (.tuple #[.int .i64 (0),.iface 266 (.pointer (some ⟨N,0,none⟩))])/\w.heap.size<=N/\w'.heap[N]? =some (.cells #[.string ⟨#[80,97,114,115,101,73,110,116]⟩,.string s,ev] 290 (0,0))/\Below w.heap.size w w':=Any.strconv_ParseInt_10_at64_syntax Tryz.xM s O7 h ev w hv G9
open Go.RowKit in
theorem Tryz.strconv_ParseInt_10_at64_range (s:ByteArray)(O7:s.size<=281474976710656)(h:aaq 64 s.data.toList= .range)(ev:Value)(w:Ε)(hv:w.cell? ⟨5,0,none⟩=some ev)(G9:ev= .nilIface\/ ∃te pe,ev= .iface te pe):
 abq ν 143 #[.string s,.int .i64 10,.int .i64 64] w λe w'=> ∃N,e= .returned (.tuple #[.int .i64 (Lib.intSat 64 s.data.toList),.iface 266 (.pointer (some ⟨N,0,none⟩))])/\w.heap.size<=N/\w'.heap[N]? =some (.cells #[.string ⟨#[80,97,114,115,101,73,110,116]⟩,.string s,ev] 290 (0,0))/\Below w.heap.size w w':=Any.strconv_ParseInt_10_at64_range Tryz.xM s O7 h ev w hv G9
def Tryz.C3:abR:=⟨fun|149=>78|222=>117|n=>n,fun|9=>9|5=>5|3=>3|4=>4|n=>n,fun|n=>n⟩
theorem Tryz.LO:aha ν Tryz.C3:={
 mixed:=by kernel_rfl
 f149:=Tryz.func78.trans (congrArg some (by kernel_rfl))
 f222:=Tryz.func117.trans (congrArg some (by kernel_rfl))
 t3:=abM
 a3:=acN
 z3:=acx
 v3:=abX
 t4:=abN
 a4:=acO
 z4:=acy
 v4:=abY
 t5:=abe
 a5:=aca
 z5:=ab4
 v5:=abo
 t9:=abn
 a9:=acP
 z9:=acz
 v9:=abZ}
open Go.RowKit Go.Lib in
theorem Tryz.strings_LastIndexByte (s:ByteArray)(c:Int)(hs:s.size<4611686018427387904)(w:Ε):
 abq ν 78 #[.string s,.int .u8 c] w λe w'=>e= .returned (.int .i64 (Lib.lastIndexByte s c))/\w'=w:=Any.strings_LastIndexByte Tryz.LO s c hs w
def Tryz.C4:abR:=⟨fun|146=>94|221=>131|268=>154|138=>155|143=>120|195=>183|197=>184|218=>185|219=>144|260=>212|217=>145|225=>176|224=>177|267=>178|266=>179|314=>211|n=>n,fun|9=>9|31=>63|3=>3|4=>4|0=>0|105=>243|21=>21|5=>5|46=>210|119=>292|139=>295|138=>294|146=>259|51=>218|n=>n,fun|1=>0|3=>6|4=>7|n=>n⟩
theorem Tryz.LP:ahb ν Tryz.C4:={
 mixed:=by kernel_rfl
 f138:=Tryz.func155.trans (congrArg some (by kernel_rfl))
 f143:=Tryz.func120.trans (congrArg some (by kernel_rfl))
 f146:=Tryz.func94.trans (congrArg some (by kernel_rfl))
 f195:=Tryz.func183.trans (congrArg some (by kernel_rfl))
 f197:=Tryz.func184.trans (congrArg some (by kernel_rfl))
 f217:=Tryz.func145.trans (congrArg some (by kernel_rfl))
 f218:=Tryz.func185.trans (congrArg some (by kernel_rfl))
 f219:=Tryz.func144.trans (congrArg some (by kernel_rfl))
 f221:=Tryz.func131.trans (congrArg some (by kernel_rfl))
 f224:=Tryz.func177.trans (congrArg some (by kernel_rfl))
 f225:=Tryz.func176.trans (congrArg some (by kernel_rfl))
 f260:=Tryz.func212.trans (congrArg some (by kernel_rfl))
 f266:=Tryz.func179.trans (congrArg some (by kernel_rfl))
 f267:=Tryz.func178.trans (congrArg some (by kernel_rfl))
 f268:=Tryz.func154.trans (congrArg some (by kernel_rfl))
 f314:=Tryz.func211.trans (congrArg some (by kernel_rfl))
 t0:=acr
 a0:=adH
 z0:=adp
 v0:=acB
 t3:=abM
 a3:=acN
 z3:=acx
 v3:=abX
 t4:=abN
 a4:=acO
 z4:=acy
 v4:=abY
 t5:=abe
 a5:=aca
 z5:=ab4
 v5:=abo
 t9:=abn
 a9:=acP
 z9:=acz
 v9:=abZ
 t21:=afF
 a21:=ag9
 z21:=agR
 v21:=afX
 t31:=afw
 a31:=ag6
 z31:=agF
 v31:=afU
 t46:=ade
 a46:=aek
 z46:=adY
 v46:=adt
 t51:=adf
 a51:=ael
 z51:=adZ
 v51:=adu
 t105:=Tryz.underlying243
 a105:=Tryz.isAgg243
 z105:=Tryz.sizeOf243
 v105:=Tryz.zeroValue243
 t119:=Tryz.underlying292
 a119:=Tryz.isAgg292
 z119:=Tryz.sizeOf292
 t138:=Tryz.underlying294
 a138:=Tryz.isAgg294
 z138:=Tryz.sizeOf294
 v138:=Tryz.zeroValue294
 t139:=Tryz.underlying295
 a139:=Tryz.isAgg295
 z139:=Tryz.sizeOf295
 v139:=Tryz.zeroValue295
 t146:=Tryz.underlying259
 a146:=Tryz.isAgg259
 z146:=Tryz.sizeOf259
 v146:=Tryz.zeroValue259
 g1:=by kernel_rfl
 g3:=by kernel_rfl
 g4:=by kernel_rfl}
open Go.RowKit Go.Lib in
theorem Tryz.strings_Split (s sep:ByteArray)(m:Int)(w:Ε)(hs:s.size<4294967281)(hm:w.cell? ⟨0,0,none⟩=some (.int .i64 m))(h1:1<=sep.size):
 abq ν 94 #[.string s,.string sep] w λe w'=>
  e= .returned (.slice (some ⟨w.heap.size,0,none⟩) (ab3 s sep+1) (ab3 s sep+1))/\w'=w.alloc (.cells ((Lib.splitB sep 0 (ab3 s sep) s).map Value.string).toArray 9):=Any.strings_Split Tryz.LP (by kernel_rfl) s sep m w hs hm h1
end Go.Proofs
