import Derived.Test.YtjnkhcgmgkhnaaaGreatDoorJournalChunk
import Derived.Shelf.Strings.Builder1
import Derived.Shelf.Strings.Builder2
import Derived.Shelf.Strings.OnBuilder
import Derived.Shelf.Small.Bits
import Derived.Shelf.Small.Strs
import Derived.Shelf.Strings.BuilderF
import Derived.Shelf.Strings.BuilderK
import Derived.Shelf.Utf8.RuneCount
import Derived.Shelf.Strings.Builder2Cap
import Derived.Shelf.Strconv.Itoa0
import Derived.Shelf.Strconv.Itoa1
import Derived.Shelf.LaysM
import Derived.Shelf.Strconv.Itoa2
import Derived.Shelf.Strconv.Itoa3
import Derived.Shelf.Strconv.Itoa4
import Derived.Shelf.Strconv.ParseIntEmpty
import Derived.Shelf.Strconv.Clone
import Derived.Shelf.Strconv.SyntaxError
import Derived.Shelf.LaysC
import Derived.Shelf.Strconv.ToError
import Derived.Shelf.Strconv.Lower
import Derived.Shelf.Strconv.ParseUint10
import Derived.Shelf.Strconv.ParseUint10Empty
import Derived.Shelf.Strconv.ParseUint10Any
import Derived.Shelf.Strconv.ParseInt10
import Derived.Shelf.Strconv.RangeError
import Derived.Shelf.Strconv.ToErrorRange
import Derived.Shelf.Strconv.ParseUintEmpty
import Derived.Shelf.Strconv.ParseUint10b64
import Derived.Shelf.Strconv.ParseUint10b32
import Derived.Shelf.Strconv.ParseUint10b16
import Derived.Shelf.Strconv.ParseUint10b8
import Derived.Shelf.Strconv.ParseUint10At
import Derived.Shelf.Strconv.ParseInt10At64
import Derived.Shelf.Strconv.ParseInt10At32
import Derived.Shelf.Strconv.ParseInt10At16
import Derived.Shelf.Strconv.ParseInt10At8
import Derived.Shelf.Strconv.ParseInt10All
import Derived.Shelf.Strconv.ParseIntPublic10
import Derived.Shelf.Strconv.ErrVarParseInt
import Derived.Shelf.Strings.Search1
import Derived.Shelf.Strings.Search2
import Derived.Shelf.Strings.Search3
import Derived.Shelf.Strings.Cut
import Derived.Shelf.Strings.Count
import Derived.Shelf.Strings.Shaped
import Derived.Shelf.Strings.LastIndex
import Derived.Shelf.Strings.Split
import Derived.Shelf.Strings.SplitShaped
import Derived.Shelf.Unicode.Decode
import Derived.Shelf.Strings.RuneCount
import Derived.Shelf.Strings.Explode
import Derived.Shelf.Bits.Mul64
import Derived.Shelf.Unicode.DecodeSlow
import Derived.Shelf.Unicode.DecodeAny
import Derived.Shelf.Strings.BuilderCap
import Derived.Shelf.SlicesE.Clone
import Derived.WalkSmall
import Derived.Lib.AppendIntMem
import Derived.Lib.ItoaLen
import Derived.StillTailTactics
import Derived.Shelf.SlSortCmp.NoneTotal
import Derived.Test.YtjnkhcgmgkhnaaaGreatDoorProg
set_option linter.all false
open Go renaming World→Ε,Calls→aaW
open Go.Lib renaming parseIntB→aaJ,IsBuilderF→aa1,countB→acr,byteCells→acw,cut→adB
open Go.Proofs.Builder renaming Extra→agl
open Go.Proofs.Lays renaming n170→ahs,n169→aht,n156→ahu,n137→ahx,n144→ahA,n145→ahB,n149→ahC,n146→ahD
open Go.Proofs.LaysC renaming n174→ahe
open Go.Proofs.LaysM renaming n173→ag5
open Go.Proofs.Tryz renaming prog→ν,underlying3→aaq,underlying9→aat,zeroValue3→aay,underlying5→aaz,zeroValue9→aaH,zeroValue5→aaI,sizeOf3→aa0,underlying4→aa8,isAgg3→abc,sizeOf9→abd,sizeOf5→abe,zeroValue4→abo,isAgg9→abv,isAgg5→abw,underlying22→abx,underlying0→abB,zeroValue0→abK,underlying210→abM,underlying218→abN,sizeOf4→abW,zeroValue210→abX,zeroValue218→abY,zeroValue22→acb,underlying91→acd,isAgg4→acg,sizeOf0→acs,sizeOf210→acy,sizeOf218→acz,isAgg0→acF,sizeOf22→acI,isAgg210→acJ,isAgg218→acK,isAgg22→ada,underlying163→adH,underlying259→adI,underlying93→adV,zeroValue163→adW,underlying20→adX,zeroValue259→adY,zeroValue91→ad9,zeroValue93→aea,zeroValue20→aeb,sizeOf163→aeu,sizeOf259→aev,sizeOf91→aeM,sizeOf93→aeN,isAgg163→aeO,sizeOf20→aeP,isAgg259→aeQ,isAgg91→ae8,isAgg93→ae9,isAgg20→afa,underlying148→afN,underlying194→afO,underlying197→afP,underlying217→afQ,underlying219→afR,underlying270→afS,underlying271→afT,underlying63→af0,underlying97→af1,zeroValue148→af2,zeroValue194→af3,zeroValue197→af4,zeroValue217→af5,zeroValue270→af6,zeroValue271→af7,underlying21→af8,zeroValue63→agm,zeroValue97→agn,underlying2→ago,zeroValue21→agp,zeroValue2→agE,sizeOf148→agR,sizeOf194→agS,sizeOf197→agT,sizeOf217→agU,sizeOf219→agV,sizeOf270→agW,sizeOf271→agX,sizeOf63→ag3,sizeOf97→ag4,isAgg148→ag6,isAgg194→ag7,isAgg197→ag8,isAgg217→ag9,isAgg219→aha,isAgg270→ahb,isAgg271→ahc,sizeOf21→ahf,isAgg63→ahv,isAgg97→ahw,sizeOf2→ahy,isAgg21→ahz,isAgg2→ahS
open Go.Shelf renaming Ren→aaX
namespace Go.Proofs
open Go.Shelf
def Tryz.Dq:aaX:=⟨fun|170=>83|n=>n,fun|70=>91|3=>3|0=>0|72=>93|37=>22|5=>5|n=>n,fun|n=>n⟩
theorem Tryz.Mk:ahs ν Tryz.Dq:={
 mixed:=by kernel_rfl
 f170:=Tryz.func83.trans (congrArg some (by kernel_rfl))
 t0:=abB
 a0:=acF
 z0:=acs
 v0:=abK
 t3:=aaq
 a3:=abc
 z3:=aa0
 v3:=aay
 t37:=abx
 a37:=ada
 z37:=acI
 v37:=acb
 t70:=acd
 a70:=ae8
 z70:=aeM
 v70:=ad9
 t72:=adV
 a72:=ae9
 z72:=aeN
 v72:=aea}
def Tryz.wm:aaX:=⟨fun|169=>49|n=>n,fun|70=>91|9=>9|0=>0|72=>93|37=>22|127=>163|3=>3|5=>5|n=>n,fun|n=>n⟩
theorem Tryz.Ml:aht ν Tryz.wm:={
 mixed:=by kernel_rfl
 f169:=Tryz.func49.trans (congrArg some (by kernel_rfl))
 t0:=abB
 a0:=acF
 z0:=acs
 v0:=abK
 t3:=aaq
 a3:=abc
 z3:=aa0
 v3:=aay
 t9:=aat
 a9:=abv
 z9:=abd
 v9:=aaH
 t37:=abx
 a37:=ada
 z37:=acI
 v37:=acb
 t70:=acd
 a70:=ae8
 z70:=aeM
 v70:=ad9
 t72:=adV
 a72:=ae9
 z72:=aeN
 v72:=aea
 t127:=adH
 a127:=aeO
 z127:=aeu
 v127:=adW}
theorem Tryz.pA:agl ν Tryz.wm:={
 sizeBuilder:=by kernel_rfl
 liesBuilder:=by kernel_rfl
 t5:=aaz
 a5:=abw
 z5:=abe
 v5:=aaI
 infoByte:=by kernel_rfl
 cellsByte:=by kernel_rfl
 sizeByte:=by kernel_rfl
 neB5:=by decide}
def Tryz.wo:aaX:=⟨fun|156=>90|165=>126|166=>47|169=>49|240=>96|241=>148|276=>137|277=>180|n=>n,fun|31=>63|9=>9|3=>3|4=>4|0=>0|20=>20|72=>93|76=>98|70=>91|37=>22|75=>97|127=>163|164=>205|5=>5|80=>101|n=>n,fun|n=>n⟩
theorem Tryz.Gz:ahu ν Tryz.wo:={
 mixed:=by kernel_rfl
 f156:=Tryz.func90.trans (congrArg some (by kernel_rfl))
 f165:=Tryz.func126.trans (congrArg some (by kernel_rfl))
 f166:=Tryz.func47.trans (congrArg some (by kernel_rfl))
 f169:=Tryz.func49.trans (congrArg some (by kernel_rfl))
 f240:=Tryz.func96.trans (congrArg some (by kernel_rfl))
 f241:=Tryz.func148.trans (congrArg some (by kernel_rfl))
 f276:=Tryz.func137.trans (congrArg some (by kernel_rfl))
 f277:=Tryz.func180.trans (congrArg some (by kernel_rfl))
 t0:=abB
 a0:=acF
 z0:=acs
 v0:=abK
 t3:=aaq
 a3:=abc
 z3:=aa0
 v3:=aay
 t4:=aa8
 a4:=acg
 z4:=abW
 v4:=abo
 t9:=aat
 a9:=abv
 z9:=abd
 v9:=aaH
 t20:=adX
 a20:=afa
 z20:=aeP
 v20:=aeb
 t31:=af0
 a31:=ahv
 z31:=ag3
 v31:=agm
 t37:=abx
 a37:=ada
 z37:=acI
 v37:=acb
 t70:=acd
 a70:=ae8
 z70:=aeM
 v70:=ad9
 t72:=adV
 a72:=ae9
 z72:=aeN
 v72:=aea
 t75:=af1
 a75:=ahw
 z75:=ag4
 v75:=agn
 t76:=Tryz.underlying98
 a76:=Tryz.isAgg98
 z76:=Tryz.sizeOf98
 v76:=Tryz.zeroValue98
 t127:=adH
 a127:=aeO
 z127:=aeu
 v127:=adW
 t164:=Tryz.underlying205
 a164:=Tryz.isAgg205
 z164:=Tryz.sizeOf205
 v164:=Tryz.zeroValue205}
theorem Tryz.pB:agl ν Tryz.wo:={
 sizeBuilder:=by kernel_rfl
 liesBuilder:=by kernel_rfl
 t5:=aaz
 a5:=abw
 z5:=abe
 v5:=aaI
 infoByte:=by kernel_rfl
 cellsByte:=by kernel_rfl
 sizeByte:=by kernel_rfl
 neB5:=by decide}
open Go.RowKit in
theorem Tryz.strings_Join_none (a:Option Addr)(c:Nat)(sep:ByteArray)(w:Ε):
 aaW ν 90 #[.slice a 0 c,.string sep] w λe w'=>e= .returned (.string ⟨#[]⟩)/\w'=w:=Any.strings_Join_none Tryz.Gz Tryz.pB a c sep w
open Go.RowKit in
theorem Tryz.strings_Join (bk o c:Nat)(xs:List ByteArray)(sep:ByteArray)(w:Ε)(tB: ∀(j:Nat) x,xs[j]? =some x->w.cell? ⟨bk,o+j,none⟩=some (.string x))(HH:bk<w.heap.size)(hN:xs.length<=140737488355328)(hcap:xs.length<=c)(hlen:(Lib.join (xs.map (·.data.toList)) sep.data.toList).length<=140737488355328):
 aaW ν 90 #[.slice (some ⟨bk,o,none⟩) xs.length c,.string sep] w λe w'=>e= .returned (.string ⟨(Lib.join (xs.map (·.data.toList)) sep.data.toList).toArray⟩)/\Below w.heap.size w w':=Any.strings_Join Tryz.Gz Tryz.pB bk o c xs sep w tB HH hN hcap hlen
def Tryz.Dr:aaX:=⟨fun|137=>121|217=>145|266=>179|n=>n,fun|9=>9|5=>5|3=>3|n=>n,fun|n=>n⟩
theorem Tryz.Mm:ahx ν Tryz.Dr:={
 mixed:=by kernel_rfl
 f137:=Tryz.func121.trans (congrArg some (by kernel_rfl))
 f217:=Tryz.func145.trans (congrArg some (by kernel_rfl))
 f266:=Tryz.func179.trans (congrArg some (by kernel_rfl))
 t3:=aaq
 a3:=abc
 z3:=aa0
 v3:=aay
 t5:=aaz
 a5:=abw
 z5:=abe
 v5:=aaI
 t9:=aat
 a9:=abv
 z9:=abd
 v9:=aaH}
open Go.RowKit in
theorem Tryz.strings_IndexByte (s:ByteArray)(c:Int)(w:Ε):
 aaW ν 121 #[.string s,.int .u8 c] w λe w'=>e= .returned (.int .i64 (Lib.indexByte s.data.toList c.toNat.toUInt8))/\w'=w:=Any.strings_IndexByte Tryz.Mm s c w
open Go.RowKit in
theorem Tryz.Builder_Len_f (B b:Nat)(bs:List Value)(w:Ε)(h:aa1 93 5 B b bs w):
 aaW ν 83 #[.pointer (some ⟨b,0,none⟩)] w λe w'=>e= .returned (.int .i64 bs.length)/\w'=w:=Any.Builder_Len_f Tryz.Mk B b bs w h
open Go.RowKit in
theorem Tryz.Builder_String_any_f (B b:Nat)(l:List UInt8)(w:Ε)(h:aa1 93 5 B b (acw l) w)(Zo:B<=w.heap.size):
 aaW ν 49 #[.pointer (some ⟨b,0,none⟩)] w λe w'=>e= .returned (.string ⟨l.toArray⟩)/\(aa1 93 5 B b (acw l) w'/\Below B w w'):=Any.Builder_String_any_f Tryz.Ml Tryz.pA B b l w h Zo
def Tryz.Bm:aaX:=⟨fun|173=>44|246=>93|283=>127|284=>128|285=>129|286=>130|129=>150|317=>149|318=>151|319=>152|320=>153|337=>181|338=>182|n=>n,fun|2=>2|3=>3|9=>9|4=>4|171=>194|0=>0|53=>148|37=>22|5=>5|173=>197|212=>217|51=>218|20=>20|213=>219|46=>210|232=>270|233=>271|n=>n,fun|17=>1|18=>2|19=>3|n=>n⟩
theorem Tryz.JL:ag5 ν Tryz.Bm:={
 mixed:=by kernel_rfl
 f129:=Tryz.func150.trans (congrArg some (by kernel_rfl))
 f173:=Tryz.func44.trans (congrArg some (by kernel_rfl))
 f246:=Tryz.func93.trans (congrArg some (by kernel_rfl))
 f283:=Tryz.func127.trans (congrArg some (by kernel_rfl))
 f284:=Tryz.func128.trans (congrArg some (by kernel_rfl))
 f285:=Tryz.func129.trans (congrArg some (by kernel_rfl))
 f286:=Tryz.func130.trans (congrArg some (by kernel_rfl))
 f317:=Tryz.func149.trans (congrArg some (by kernel_rfl))
 f318:=Tryz.func151.trans (congrArg some (by kernel_rfl))
 f319:=Tryz.func152.trans (congrArg some (by kernel_rfl))
 f320:=Tryz.func153.trans (congrArg some (by kernel_rfl))
 f337:=Tryz.func181.trans (congrArg some (by kernel_rfl))
 f338:=Tryz.func182.trans (congrArg some (by kernel_rfl))
 t0:=abB
 a0:=acF
 z0:=acs
 v0:=abK
 t2:=ago
 a2:=ahS
 z2:=ahy
 v2:=agE
 t3:=aaq
 a3:=abc
 z3:=aa0
 v3:=aay
 t4:=aa8
 a4:=acg
 z4:=abW
 v4:=abo
 t5:=aaz
 a5:=abw
 z5:=abe
 v5:=aaI
 t9:=aat
 a9:=abv
 z9:=abd
 v9:=aaH
 t20:=adX
 a20:=afa
 z20:=aeP
 v20:=aeb
 t37:=abx
 a37:=ada
 z37:=acI
 v37:=acb
 t46:=abM
 a46:=acJ
 z46:=acy
 v46:=abX
 t51:=abN
 a51:=acK
 z51:=acz
 v51:=abY
 t53:=afN
 a53:=ag6
 z53:=agR
 v53:=af2
 t171:=afO
 a171:=ag7
 z171:=agS
 v171:=af3
 t173:=afP
 a173:=ag8
 z173:=agT
 v173:=af4
 t212:=afQ
 a212:=ag9
 z212:=agU
 v212:=af5
 t213:=afR
 a213:=aha
 z213:=agV
 t232:=afS
 a232:=ahb
 z232:=agW
 v232:=af6
 t233:=afT
 a233:=ahc
 z233:=agX
 v233:=af7
 g17:=by kernel_rfl
 g18:=by kernel_rfl
 g19:=by kernel_rfl
 i0:=by kernel_rfl
 i2:=by kernel_rfl
 i3:=by kernel_rfl
 i4:=by kernel_rfl
 i5:=by kernel_rfl
 i9:=by kernel_rfl
 i20:=by kernel_rfl
 i37:=by kernel_rfl
 i46:=by kernel_rfl
 i51:=by kernel_rfl
 i53:=by kernel_rfl
 i171:=by kernel_rfl
 i173:=by kernel_rfl
 i212:=by kernel_rfl
 i232:=by kernel_rfl
 i233:=by kernel_rfl
 m17:=by kernel_rfl
 m18:=by kernel_rfl
 m19:=by kernel_rfl}
open Go.RowKit Go.Sort Go.Lib in
theorem Tryz.strconv_FormatInt_10 (n:Int)(h0: -9223372036854775808<=n)(h1:n<=9223372036854775807)(w:Ε)(Xb:Lib.TabIs ν w "internal/strconv.uint64pow10" .u64 Lib.pow10Tab):
 aaW ν 44 #[.int .i64 n,.int .i64 10] w λe w'=>e= .returned (.string ⟨(Lib.itoa n).toArray⟩)/\ ∃k os,w'=grow (w.drewN k) os:=Any.strconv_FormatInt_10 Tryz.JL n h0 h1 w Xb
def Tryz.Bo:aaX:=⟨fun|174=>143|247=>174|245=>175|287=>206|279=>207|280=>208|281=>209|282=>210|321=>220|322=>221|316=>222|171=>224|205=>223|243=>229|246=>93|283=>127|284=>128|285=>129|286=>130|129=>150|317=>149|318=>151|319=>152|320=>153|337=>181|338=>182|n=>n,fun|9=>9|3=>3|2=>2|75=>97|85=>213|4=>4|167=>263|5=>5|53=>148|175=>264|46=>210|168=>266|37=>22|0=>0|210=>290|21=>21|127=>163|145=>301|143=>299|171=>194|173=>197|212=>217|51=>218|20=>20|213=>219|232=>270|233=>271|80=>101|n=>n,fun|15=>4|16=>5|17=>1|18=>2|19=>3|n=>n⟩
theorem Tryz.yt:ahe ν Tryz.Bo:={
 mixed:=by kernel_rfl
 f129:=Tryz.func150.trans (congrArg some (by kernel_rfl))
 f171:=Tryz.func224.trans (congrArg some (by kernel_rfl))
 f174:=Tryz.func143.trans (congrArg some (by kernel_rfl))
 f205:=Tryz.func223.trans (congrArg some (by kernel_rfl))
 f243:=Tryz.func229.trans (congrArg some (by kernel_rfl))
 f245:=Tryz.func175.trans (congrArg some (by kernel_rfl))
 f246:=Tryz.func93.trans (congrArg some (by kernel_rfl))
 f247:=Tryz.func174.trans (congrArg some (by kernel_rfl))
 f279:=Tryz.func207.trans (congrArg some (by kernel_rfl))
 f280:=Tryz.func208.trans (congrArg some (by kernel_rfl))
 f281:=Tryz.func209.trans (congrArg some (by kernel_rfl))
 f282:=Tryz.func210.trans (congrArg some (by kernel_rfl))
 f283:=Tryz.func127.trans (congrArg some (by kernel_rfl))
 f284:=Tryz.func128.trans (congrArg some (by kernel_rfl))
 f285:=Tryz.func129.trans (congrArg some (by kernel_rfl))
 f286:=Tryz.func130.trans (congrArg some (by kernel_rfl))
 f287:=Tryz.func206.trans (congrArg some (by kernel_rfl))
 f316:=Tryz.func222.trans (congrArg some (by kernel_rfl))
 f317:=Tryz.func149.trans (congrArg some (by kernel_rfl))
 f318:=Tryz.func151.trans (congrArg some (by kernel_rfl))
 f319:=Tryz.func152.trans (congrArg some (by kernel_rfl))
 f320:=Tryz.func153.trans (congrArg some (by kernel_rfl))
 f321:=Tryz.func220.trans (congrArg some (by kernel_rfl))
 f322:=Tryz.func221.trans (congrArg some (by kernel_rfl))
 f337:=Tryz.func181.trans (congrArg some (by kernel_rfl))
 f338:=Tryz.func182.trans (congrArg some (by kernel_rfl))
 t0:=abB
 a0:=acF
 z0:=acs
 v0:=abK
 t2:=ago
 a2:=ahS
 z2:=ahy
 v2:=agE
 t3:=aaq
 a3:=abc
 z3:=aa0
 v3:=aay
 t4:=aa8
 a4:=acg
 z4:=abW
 v4:=abo
 t5:=aaz
 a5:=abw
 z5:=abe
 v5:=aaI
 t9:=aat
 a9:=abv
 z9:=abd
 v9:=aaH
 t20:=adX
 a20:=afa
 z20:=aeP
 v20:=aeb
 t21:=af8
 a21:=ahz
 z21:=ahf
 v21:=agp
 t37:=abx
 a37:=ada
 z37:=acI
 v37:=acb
 t46:=abM
 a46:=acJ
 z46:=acy
 v46:=abX
 t51:=abN
 a51:=acK
 z51:=acz
 v51:=abY
 t53:=afN
 a53:=ag6
 z53:=agR
 v53:=af2
 t75:=af1
 a75:=ahw
 z75:=ag4
 v75:=agn
 t85:=Tryz.underlying213
 a85:=Tryz.isAgg213
 z85:=Tryz.sizeOf213
 v85:=Tryz.zeroValue213
 t127:=adH
 a127:=aeO
 z127:=aeu
 v127:=adW
 t143:=Tryz.underlying299
 a143:=Tryz.isAgg299
 z143:=Tryz.sizeOf299
 v143:=Tryz.zeroValue299
 t145:=Tryz.underlying301
 a145:=Tryz.isAgg301
 z145:=Tryz.sizeOf301
 v145:=Tryz.zeroValue301
 t167:=Tryz.underlying263
 a167:=Tryz.isAgg263
 z167:=Tryz.sizeOf263
 v167:=Tryz.zeroValue263
 t168:=Tryz.underlying266
 a168:=Tryz.isAgg266
 z168:=Tryz.sizeOf266
 v168:=Tryz.zeroValue266
 t171:=afO
 a171:=ag7
 z171:=agS
 v171:=af3
 t173:=afP
 a173:=ag8
 z173:=agT
 v173:=af4
 t175:=Tryz.underlying264
 a175:=Tryz.isAgg264
 z175:=Tryz.sizeOf264
 v175:=Tryz.zeroValue264
 t210:=Tryz.underlying290
 a210:=Tryz.isAgg290
 z210:=Tryz.sizeOf290
 v210:=Tryz.zeroValue290
 t212:=afQ
 a212:=ag9
 z212:=agU
 v212:=af5
 t213:=afR
 a213:=aha
 z213:=agV
 t232:=afS
 a232:=ahb
 z232:=agW
 v232:=af6
 t233:=afT
 a233:=ahc
 z233:=agX
 v233:=af7
 g15:=by kernel_rfl
 g16:=by kernel_rfl
 g17:=by kernel_rfl
 g18:=by kernel_rfl
 g19:=by kernel_rfl
 t80:=Tryz.underlying101
 a80:=Tryz.isAgg101
 z80:=Tryz.sizeOf101
 v80:=Tryz.zeroValue101
 i0:=by kernel_rfl
 i2:=by kernel_rfl
 i3:=by kernel_rfl
 i4:=by kernel_rfl
 i5:=by kernel_rfl
 i9:=by kernel_rfl
 i20:=by kernel_rfl
 i21:=by kernel_rfl
 i37:=by kernel_rfl
 i46:=by kernel_rfl
 i51:=by kernel_rfl
 i53:=by kernel_rfl
 i75:=by kernel_rfl
 i80:=by kernel_rfl
 i85:=by kernel_rfl
 i127:=by kernel_rfl
 i143:=by kernel_rfl
 i145:=by kernel_rfl
 i167:=by kernel_rfl
 i168:=by kernel_rfl
 i171:=by kernel_rfl
 i173:=by kernel_rfl
 i175:=by kernel_rfl
 i210:=by kernel_rfl
 i212:=by kernel_rfl
 i232:=by kernel_rfl
 i233:=by kernel_rfl
 m15:=by kernel_rfl
 m16:=by kernel_rfl
 m17:=by kernel_rfl
 m18:=by kernel_rfl
 m19:=by kernel_rfl
 c0:=by kernel_rfl
 c2:=by kernel_rfl
 c3:=by kernel_rfl
 c4:=by kernel_rfl
 c5:=by kernel_rfl
 c9:=by kernel_rfl
 c20:=by kernel_rfl
 c21:=by kernel_rfl
 c37:=by kernel_rfl
 c46:=by kernel_rfl
 c51:=by kernel_rfl
 c53:=by kernel_rfl
 c75:=by kernel_rfl
 c80:=by kernel_rfl
 c85:=by kernel_rfl
 c127:=by kernel_rfl
 c143:=by kernel_rfl
 c145:=by kernel_rfl
 c167:=by kernel_rfl
 c168:=by kernel_rfl
 c171:=by kernel_rfl
 c173:=by kernel_rfl
 c175:=by kernel_rfl
 c210:=by kernel_rfl
 c212:=by kernel_rfl
 c213:=by kernel_rfl
 c232:=by kernel_rfl
 c233:=by kernel_rfl}
open Go.RowKit in
theorem Tryz.strconv_ParseInt_10_at64_ok (s:ByteArray)(AE:s.size<=9223372036854775806)(v:Int)(h:aaJ 64 s.data.toList= .ok v)(w:Ε):
 aaW ν 143 #[.string s,.int .i64 10,.int .i64 64] w λe w'=>e= .returned (.tuple #[.int .i64 v,.nilIface])/\(w'=w\/ ∃t,w'=Lib.bytesWorld w 5 t):=Any.strconv_ParseInt_10_at64_ok Tryz.yt s AE v h w
open Go.RowKit in
theorem Tryz.strconv_ParseInt_10_at64_syntax (s:ByteArray)(PQ:s.size<=281474976710656)(h:aaJ 64 s.data.toList=aaJ 64 [])(ev:Value)(w:Ε)(hv:w.cell? ⟨4,0,none⟩=some ev)(HF:ev= .nilIface\/ ∃te pe,ev= .iface te pe):
 aaW ν 143 #[.string s,.int .i64 10,.int .i64 64] w λe w'=> ∃N,e= .returned (.tuple #[.int .i64 (0),.iface 266 (.pointer (some ⟨N,0,none⟩))])/\w.heap.size<=N/\w'.heap[N]? =some (.cells #[.string ⟨#[80,97,114,115,101,73,110,116]⟩,.string s,ev] 290 (0,0))/\Below w.heap.size w w':=Any.strconv_ParseInt_10_at64_syntax Tryz.yt s PQ h ev w hv HF
open Go.RowKit in
theorem Tryz.strconv_ParseInt_10_at64_range (s:ByteArray)(PQ:s.size<=281474976710656)(h:aaJ 64 s.data.toList= .range)(ev:Value)(w:Ε)(hv:w.cell? ⟨5,0,none⟩=some ev)(HF:ev= .nilIface\/ ∃te pe,ev= .iface te pe):
 aaW ν 143 #[.string s,.int .i64 10,.int .i64 64] w λe w'=> ∃N,e= .returned (.tuple #[.int .i64 (Lib.intSat 64 s.data.toList),.iface 266 (.pointer (some ⟨N,0,none⟩))])/\w.heap.size<=N/\w'.heap[N]? =some (.cells #[.string ⟨#[80,97,114,115,101,73,110,116]⟩,.string s,ev] 290 (0,0))/\Below w.heap.size w w':=Any.strconv_ParseInt_10_at64_range Tryz.yt s PQ h ev w hv HF
def Tryz.Dt:aaX:=⟨fun|144=>81|143=>120|219=>144|217=>145|225=>176|224=>177|267=>178|266=>179|314=>211|n=>n,fun|9=>9|4=>4|3=>3|5=>5|46=>210|146=>259|51=>218|n=>n,fun|1=>0|n=>n⟩
theorem Tryz.Mn:ahA ν Tryz.Dt:={
 mixed:=by kernel_rfl
 f143:=Tryz.func120.trans (congrArg some (by kernel_rfl))
 f144:=Tryz.func81.trans (congrArg some (by kernel_rfl))
 f217:=Tryz.func145.trans (congrArg some (by kernel_rfl))
 f219:=Tryz.func144.trans (congrArg some (by kernel_rfl))
 f224:=Tryz.func177.trans (congrArg some (by kernel_rfl))
 f225:=Tryz.func176.trans (congrArg some (by kernel_rfl))
 f266:=Tryz.func179.trans (congrArg some (by kernel_rfl))
 f267:=Tryz.func178.trans (congrArg some (by kernel_rfl))
 f314:=Tryz.func211.trans (congrArg some (by kernel_rfl))
 t3:=aaq
 a3:=abc
 z3:=aa0
 v3:=aay
 t4:=aa8
 a4:=acg
 z4:=abW
 v4:=abo
 t5:=aaz
 a5:=abw
 z5:=abe
 v5:=aaI
 t9:=aat
 a9:=abv
 z9:=abd
 v9:=aaH
 t46:=abM
 a46:=acJ
 z46:=acy
 v46:=abX
 t51:=abN
 a51:=acK
 z51:=acz
 v51:=abY
 t146:=adI
 a146:=aeQ
 z146:=aev
 v146:=adY
 g1:=by kernel_rfl}
open Go.RowKit Go.Lib in
theorem Tryz.strings_Contains (s sub:ByteArray)(m:Int)(w:Ε)(hs:s.size<4294967281)(hm:w.cell? ⟨0,0,none⟩=some (.int .i64 m)):
 aaW ν 81 #[.string s,.string sub] w λe w'=>e= .returned (.bool (Lib.contains s.data.toList sub.data.toList))/\w'=w:=Any.strings_Contains Tryz.Mn s sub m w hs hm
def Tryz.Du:aaX:=⟨fun|145=>122|220=>146|219=>144|217=>145|225=>176|224=>177|267=>178|266=>179|314=>211|n=>n,fun|9=>9|4=>4|59=>187|3=>3|5=>5|46=>210|146=>259|51=>218|n=>n,fun|1=>0|n=>n⟩
theorem Tryz.Mo:ahB ν Tryz.Du:={
 mixed:=by kernel_rfl
 f145:=Tryz.func122.trans (congrArg some (by kernel_rfl))
 f217:=Tryz.func145.trans (congrArg some (by kernel_rfl))
 f219:=Tryz.func144.trans (congrArg some (by kernel_rfl))
 f220:=Tryz.func146.trans (congrArg some (by kernel_rfl))
 f224:=Tryz.func177.trans (congrArg some (by kernel_rfl))
 f225:=Tryz.func176.trans (congrArg some (by kernel_rfl))
 f266:=Tryz.func179.trans (congrArg some (by kernel_rfl))
 f267:=Tryz.func178.trans (congrArg some (by kernel_rfl))
 f314:=Tryz.func211.trans (congrArg some (by kernel_rfl))
 t3:=aaq
 a3:=abc
 z3:=aa0
 v3:=aay
 t4:=aa8
 a4:=acg
 z4:=abW
 v4:=abo
 t5:=aaz
 a5:=abw
 z5:=abe
 v5:=aaI
 t9:=aat
 a9:=abv
 z9:=abd
 v9:=aaH
 t46:=abM
 a46:=acJ
 z46:=acy
 v46:=abX
 t51:=abN
 a51:=acK
 z51:=acz
 v51:=abY
 t59:=Tryz.underlying187
 a59:=Tryz.isAgg187
 z59:=Tryz.sizeOf187
 v59:=Tryz.zeroValue187
 t146:=adI
 a146:=aeQ
 z146:=aev
 v146:=adY
 g1:=by kernel_rfl}
open Go.RowKit Go.Lib in
theorem Tryz.strings_Cut (s sep:ByteArray)(m:Int)(w:Ε)(hs:s.size<4294967281)(hm:w.cell? ⟨0,0,none⟩=some (.int .i64 m)):
 aaW ν 122 #[.string s,.string sep] w λe w'=>e= .returned (.tuple #[.string ⟨(adB s.data.toList sep.data.toList).1.toArray⟩,.string ⟨(adB s.data.toList sep.data.toList).2.1.toArray⟩,.bool (adB s.data.toList sep.data.toList).2.2])/\ ∃n,w'=w.drewN n:=Any.strings_Cut Tryz.Mo s sep m w hs hm
def Tryz.Dv:aaX:=⟨fun|149=>78|222=>117|n=>n,fun|9=>9|5=>5|3=>3|4=>4|n=>n,fun|n=>n⟩
theorem Tryz.Mp:ahC ν Tryz.Dv:={
 mixed:=by kernel_rfl
 f149:=Tryz.func78.trans (congrArg some (by kernel_rfl))
 f222:=Tryz.func117.trans (congrArg some (by kernel_rfl))
 t3:=aaq
 a3:=abc
 z3:=aa0
 v3:=aay
 t4:=aa8
 a4:=acg
 z4:=abW
 v4:=abo
 t5:=aaz
 a5:=abw
 z5:=abe
 v5:=aaI
 t9:=aat
 a9:=abv
 z9:=abd
 v9:=aaH}
open Go.RowKit Go.Lib in
theorem Tryz.strings_LastIndexByte (s:ByteArray)(c:Int)(hs:s.size<4611686018427387904)(w:Ε):
 aaW ν 78 #[.string s,.int .u8 c] w λe w'=>e= .returned (.int .i64 (Lib.lastIndexByte s c))/\w'=w:=Any.strings_LastIndexByte Tryz.Mp s c hs w
def Tryz.Dw:aaX:=⟨fun|146=>94|221=>131|268=>154|138=>155|143=>120|195=>183|197=>184|218=>185|219=>144|260=>212|217=>145|225=>176|224=>177|267=>178|266=>179|314=>211|n=>n,fun|9=>9|31=>63|3=>3|4=>4|0=>0|105=>243|21=>21|5=>5|46=>210|119=>292|139=>295|138=>294|146=>259|51=>218|n=>n,fun|1=>0|3=>6|4=>7|n=>n⟩
theorem Tryz.Mq:ahD ν Tryz.Dw:={
 mixed:=by kernel_rfl
 f138:=Tryz.func155.trans (congrArg some (by kernel_rfl))
 f143:=Tryz.func120.trans (congrArg some (by kernel_rfl))
 f146:=Tryz.func94.trans (congrArg some (by kernel_rfl))
 f195:=Tryz.func183.trans (congrArg some (by kernel_rfl))
 f197:=Tryz.func184.trans (congrArg some (by kernel_rfl))
 f217:=Tryz.func145.trans (congrArg some (by kernel_rfl))
 f218:=Tryz.func185.trans (congrArg some (by kernel_rfl))
 f219:=Tryz.func144.trans (congrArg some (by kernel_rfl))
 f221:=Tryz.func131.trans (congrArg some (by kernel_rfl))
 f224:=Tryz.func177.trans (congrArg some (by kernel_rfl))
 f225:=Tryz.func176.trans (congrArg some (by kernel_rfl))
 f260:=Tryz.func212.trans (congrArg some (by kernel_rfl))
 f266:=Tryz.func179.trans (congrArg some (by kernel_rfl))
 f267:=Tryz.func178.trans (congrArg some (by kernel_rfl))
 f268:=Tryz.func154.trans (congrArg some (by kernel_rfl))
 f314:=Tryz.func211.trans (congrArg some (by kernel_rfl))
 t0:=abB
 a0:=acF
 z0:=acs
 v0:=abK
 t3:=aaq
 a3:=abc
 z3:=aa0
 v3:=aay
 t4:=aa8
 a4:=acg
 z4:=abW
 v4:=abo
 t5:=aaz
 a5:=abw
 z5:=abe
 v5:=aaI
 t9:=aat
 a9:=abv
 z9:=abd
 v9:=aaH
 t21:=af8
 a21:=ahz
 z21:=ahf
 v21:=agp
 t31:=af0
 a31:=ahv
 z31:=ag3
 v31:=agm
 t46:=abM
 a46:=acJ
 z46:=acy
 v46:=abX
 t51:=abN
 a51:=acK
 z51:=acz
 v51:=abY
 t105:=Tryz.underlying243
 a105:=Tryz.isAgg243
 z105:=Tryz.sizeOf243
 v105:=Tryz.zeroValue243
 t119:=Tryz.underlying292
 a119:=Tryz.isAgg292
 z119:=Tryz.sizeOf292
 t138:=Tryz.underlying294
 a138:=Tryz.isAgg294
 z138:=Tryz.sizeOf294
 v138:=Tryz.zeroValue294
 t139:=Tryz.underlying295
 a139:=Tryz.isAgg295
 z139:=Tryz.sizeOf295
 v139:=Tryz.zeroValue295
 t146:=adI
 a146:=aeQ
 z146:=aev
 v146:=adY
 g1:=by kernel_rfl
 g3:=by kernel_rfl
 g4:=by kernel_rfl}
open Go.RowKit Go.Lib in
theorem Tryz.strings_Split (s sep:ByteArray)(m:Int)(w:Ε)(hs:s.size<4294967281)(hm:w.cell? ⟨0,0,none⟩=some (.int .i64 m))(h1:1<=sep.size):
 aaW ν 94 #[.string s,.string sep] w λe w'=>
  e= .returned (.slice (some ⟨w.heap.size,0,none⟩) (acr s sep+1) (acr s sep+1))/\w'=w.alloc (.cells ((Lib.splitB sep 0 (acr s sep) s).map Value.string).toArray 9):=Any.strings_Split Tryz.Mq (by kernel_rfl) s sep m w hs hm h1
end Go.Proofs
