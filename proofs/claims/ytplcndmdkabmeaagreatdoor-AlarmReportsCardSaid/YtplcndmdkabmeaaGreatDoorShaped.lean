/- The shelf's layings at this dump for strings.Split, strings.Cut, strconv.Atoi and (*strings.Builder).String, as the kit's own printers (lay-shelf.mjs, lay-plain.mjs) write them. Conditions: none. | What the library's variables must hold for Split, Cut, Atoi and Itoa; these calls, in plain words; the program's number. Conditions: those variables. | The wrap of a row whose contract wants the laid variables and the world's shape; what the laid variables and the shape give the library. Conditions: those that the row's form gives. -/
import Derived.Shelf.Strings.Split
import Derived.Shelf.Strings.Cut
import Derived.Shelf.Strings.Builder1
import Derived.Shelf.Strconv.AtoiAll
import Derived.Test.YtplcndmdkabmeaaGreatDoorRows
import Derived.Test.YtplcndmdkabmeaaGreatDoorPows
import Derived.Test.YtplcndmdkabmeaaGreatDoorParP
import Derived.HandedShaped
import Derived.Handed
import Derived.Stop.LaidErr
import Derived.Shelf.Vars
import Derived.LaidLaws
import Derived.LaidMore
import Derived.MakeChecks
set_option linter.unusedSimpArgs false
set_option linter.unusedVariables false
set_option maxRecDepth 100000
namespace Go.Proofs.YtplcndmdkabmeaaGreatDoor
open Go.RowKit
open Go.Shelf
def zeV:Go.Shelf.Ren:=⟨fun|172=>170|244=>217|245=>218|247=>240|279=>241|280=>242|281=>243|282=>244|287=>251|316=>252|171=>34|205=>253|321=>264|322=>265|243=>70|246=>118|283=>171|284=>172|285=>173|286=>174|129=>220|317=>219|318=>221|319=>222|320=>223|337=>245|338=>246|n=>n,fun|9=>9|3=>3|75=>204|76=>205|4=>4|5=>5|167=>257|37=>90|0=>0|85=>258|2=>2|168=>260|53=>208|175=>266|46=>197|210=>270|127=>287|145=>290|143=>288|21=>21|171=>207|173=>211|212=>245|51=>236|20=>20|213=>246|232=>272|233=>273|80=>299|n=>n,fun|15=>2|16=>3|17=>1|18=>4|19=>5|n=>n⟩
theorem UM:Go.Proofs.LaysC.n172 Tryz.prog zeV:={
 mixed:=by kernel_rfl
 f129:=Tryz.func220.trans (congrArg some (by kernel_rfl))
 f171:=Tryz.func34.trans (congrArg some (by kernel_rfl))
 f172:=Tryz.func170.trans (congrArg some (by kernel_rfl))
 f205:=Tryz.func253.trans (congrArg some (by kernel_rfl))
 f243:=Tryz.func70.trans (congrArg some (by kernel_rfl))
 f244:=Tryz.func217.trans (congrArg some (by kernel_rfl))
 f245:=Tryz.func218.trans (congrArg some (by kernel_rfl))
 f246:=Tryz.func118.trans (congrArg some (by kernel_rfl))
 f247:=Tryz.func240.trans (congrArg some (by kernel_rfl))
 f279:=Tryz.func241.trans (congrArg some (by kernel_rfl))
 f280:=Tryz.func242.trans (congrArg some (by kernel_rfl))
 f281:=Tryz.func243.trans (congrArg some (by kernel_rfl))
 f282:=Tryz.func244.trans (congrArg some (by kernel_rfl))
 f283:=Tryz.func171.trans (congrArg some (by kernel_rfl))
 f284:=Tryz.func172.trans (congrArg some (by kernel_rfl))
 f285:=Tryz.func173.trans (congrArg some (by kernel_rfl))
 f286:=Tryz.func174.trans (congrArg some (by kernel_rfl))
 f287:=Tryz.func251.trans (congrArg some (by kernel_rfl))
 f316:=Tryz.func252.trans (congrArg some (by kernel_rfl))
 f317:=Tryz.func219.trans (congrArg some (by kernel_rfl))
 f318:=Tryz.func221.trans (congrArg some (by kernel_rfl))
 f319:=Tryz.func222.trans (congrArg some (by kernel_rfl))
 f320:=Tryz.func223.trans (congrArg some (by kernel_rfl))
 f321:=Tryz.func264.trans (congrArg some (by kernel_rfl))
 f322:=Tryz.func265.trans (congrArg some (by kernel_rfl))
 f337:=Tryz.func245.trans (congrArg some (by kernel_rfl))
 f338:=Tryz.func246.trans (congrArg some (by kernel_rfl))
 t0:=Tryz.underlying0
 a0:=Tryz.isAgg0
 z0:=Tryz.sizeOf0
 v0:=Tryz.zeroValue0
 t2:=Tryz.underlying2
 a2:=Tryz.isAgg2
 z2:=Tryz.sizeOf2
 v2:=Tryz.zeroValue2
 t3:=Tryz.underlying3
 a3:=Tryz.isAgg3
 z3:=Tryz.sizeOf3
 v3:=Tryz.zeroValue3
 t4:=Tryz.underlying4
 a4:=Tryz.isAgg4
 z4:=Tryz.sizeOf4
 v4:=Tryz.zeroValue4
 t5:=Tryz.underlying5
 a5:=Tryz.isAgg5
 z5:=Tryz.sizeOf5
 v5:=Tryz.zeroValue5
 t9:=Tryz.underlying9
 a9:=Tryz.isAgg9
 z9:=Tryz.sizeOf9
 v9:=Tryz.zeroValue9
 t20:=Tryz.underlying20
 a20:=Tryz.isAgg20
 z20:=Tryz.sizeOf20
 v20:=Tryz.zeroValue20
 t21:=Tryz.underlying21
 a21:=Tryz.isAgg21
 z21:=Tryz.sizeOf21
 v21:=Tryz.zeroValue21
 t37:=Tryz.underlying90
 a37:=Tryz.isAgg90
 z37:=Tryz.sizeOf90
 v37:=Tryz.zeroValue90
 t46:=Tryz.underlying197
 a46:=Tryz.isAgg197
 z46:=Tryz.sizeOf197
 v46:=Tryz.zeroValue197
 t51:=Tryz.underlying236
 a51:=Tryz.isAgg236
 z51:=Tryz.sizeOf236
 v51:=Tryz.zeroValue236
 t53:=Tryz.underlying208
 a53:=Tryz.isAgg208
 z53:=Tryz.sizeOf208
 v53:=Tryz.zeroValue208
 t75:=Tryz.underlying204
 a75:=Tryz.isAgg204
 z75:=Tryz.sizeOf204
 v75:=Tryz.zeroValue204
 t76:=Tryz.underlying205
 a76:=Tryz.isAgg205
 z76:=Tryz.sizeOf205
 v76:=Tryz.zeroValue205
 t85:=Tryz.underlying258
 a85:=Tryz.isAgg258
 z85:=Tryz.sizeOf258
 v85:=Tryz.zeroValue258
 t127:=Tryz.underlying287
 a127:=Tryz.isAgg287
 z127:=Tryz.sizeOf287
 v127:=Tryz.zeroValue287
 t143:=Tryz.underlying288
 a143:=Tryz.isAgg288
 z143:=Tryz.sizeOf288
 v143:=Tryz.zeroValue288
 t145:=Tryz.underlying290
 a145:=Tryz.isAgg290
 z145:=Tryz.sizeOf290
 v145:=Tryz.zeroValue290
 t167:=Tryz.underlying257
 a167:=Tryz.isAgg257
 z167:=Tryz.sizeOf257
 v167:=Tryz.zeroValue257
 t168:=Tryz.underlying260
 a168:=Tryz.isAgg260
 z168:=Tryz.sizeOf260
 v168:=Tryz.zeroValue260
 t171:=Tryz.underlying207
 a171:=Tryz.isAgg207
 z171:=Tryz.sizeOf207
 v171:=Tryz.zeroValue207
 t173:=Tryz.underlying211
 a173:=Tryz.isAgg211
 z173:=Tryz.sizeOf211
 v173:=Tryz.zeroValue211
 t175:=Tryz.underlying266
 a175:=Tryz.isAgg266
 z175:=Tryz.sizeOf266
 v175:=Tryz.zeroValue266
 t210:=Tryz.underlying270
 a210:=Tryz.isAgg270
 z210:=Tryz.sizeOf270
 v210:=Tryz.zeroValue270
 t212:=Tryz.underlying245
 a212:=Tryz.isAgg245
 z212:=Tryz.sizeOf245
 v212:=Tryz.zeroValue245
 t213:=Tryz.underlying246
 a213:=Tryz.isAgg246
 z213:=Tryz.sizeOf246
 t232:=Tryz.underlying272
 a232:=Tryz.isAgg272
 z232:=Tryz.sizeOf272
 v232:=Tryz.zeroValue272
 t233:=Tryz.underlying273
 a233:=Tryz.isAgg273
 z233:=Tryz.sizeOf273
 v233:=Tryz.zeroValue273
 g15:=by kernel_rfl
 g16:=by kernel_rfl
 g17:=by kernel_rfl
 g18:=by kernel_rfl
 g19:=by kernel_rfl
 t80:=Tryz.underlying299
 a80:=Tryz.isAgg299
 z80:=Tryz.sizeOf299
 v80:=Tryz.zeroValue299
 i0:=by kernel_rfl
 i2:=by kernel_rfl
 i3:=by kernel_rfl
 i4:=by kernel_rfl
 i5:=by kernel_rfl
 i9:=by kernel_rfl
 i20:=by kernel_rfl
 i21:=by kernel_rfl
 i37:=by kernel_rfl
 i46:=by kernel_rfl
 i51:=by kernel_rfl
 i53:=by kernel_rfl
 i75:=by kernel_rfl
 i76:=by kernel_rfl
 i80:=by kernel_rfl
 i85:=by kernel_rfl
 i127:=by kernel_rfl
 i143:=by kernel_rfl
 i145:=by kernel_rfl
 i167:=by kernel_rfl
 i168:=by kernel_rfl
 i171:=by kernel_rfl
 i173:=by kernel_rfl
 i175:=by kernel_rfl
 i210:=by kernel_rfl
 i212:=by kernel_rfl
 i232:=by kernel_rfl
 i233:=by kernel_rfl
 m15:=by kernel_rfl
 m16:=by kernel_rfl
 m17:=by kernel_rfl
 m18:=by kernel_rfl
 m19:=by kernel_rfl
 c0:=by kernel_rfl
 c2:=by kernel_rfl
 c3:=by kernel_rfl
 c4:=by kernel_rfl
 c5:=by kernel_rfl
 c9:=by kernel_rfl
 c20:=by kernel_rfl
 c21:=by kernel_rfl
 c37:=by kernel_rfl
 c46:=by kernel_rfl
 c51:=by kernel_rfl
 c53:=by kernel_rfl
 c75:=by kernel_rfl
 c76:=by kernel_rfl
 c80:=by kernel_rfl
 c85:=by kernel_rfl
 c127:=by kernel_rfl
 c143:=by kernel_rfl
 c145:=by kernel_rfl
 c167:=by kernel_rfl
 c168:=by kernel_rfl
 c171:=by kernel_rfl
 c173:=by kernel_rfl
 c175:=by kernel_rfl
 c210:=by kernel_rfl
 c212:=by kernel_rfl
 c213:=by kernel_rfl
 c232:=by kernel_rfl
 c233:=by kernel_rfl }
def zfU:Go.Shelf.Ren:=⟨fun|145=>67|220=>113|219=>168|217=>210|225=>211|224=>212|267=>213|266=>235|314=>236|n=>n,fun|9=>9|4=>4|59=>120|3=>3|5=>5|46=>197|146=>237|51=>236|n=>n,fun|1=>0|n=>n⟩
theorem zeW:Go.Proofs.Lays.n145 Tryz.prog zfU:={
 mixed:=by kernel_rfl
 f145:=Tryz.func67.trans (congrArg some (by kernel_rfl))
 f217:=Tryz.func210.trans (congrArg some (by kernel_rfl))
 f219:=Tryz.func168.trans (congrArg some (by kernel_rfl))
 f220:=Tryz.func113.trans (congrArg some (by kernel_rfl))
 f224:=Tryz.func212.trans (congrArg some (by kernel_rfl))
 f225:=Tryz.func211.trans (congrArg some (by kernel_rfl))
 f266:=Tryz.func235.trans (congrArg some (by kernel_rfl))
 f267:=Tryz.func213.trans (congrArg some (by kernel_rfl))
 f314:=Tryz.func236.trans (congrArg some (by kernel_rfl))
 t3:=Tryz.underlying3
 a3:=Tryz.isAgg3
 z3:=Tryz.sizeOf3
 v3:=Tryz.zeroValue3
 t4:=Tryz.underlying4
 a4:=Tryz.isAgg4
 z4:=Tryz.sizeOf4
 v4:=Tryz.zeroValue4
 t5:=Tryz.underlying5
 a5:=Tryz.isAgg5
 z5:=Tryz.sizeOf5
 v5:=Tryz.zeroValue5
 t9:=Tryz.underlying9
 a9:=Tryz.isAgg9
 z9:=Tryz.sizeOf9
 v9:=Tryz.zeroValue9
 t46:=Tryz.underlying197
 a46:=Tryz.isAgg197
 z46:=Tryz.sizeOf197
 v46:=Tryz.zeroValue197
 t51:=Tryz.underlying236
 a51:=Tryz.isAgg236
 z51:=Tryz.sizeOf236
 v51:=Tryz.zeroValue236
 t59:=Tryz.underlying120
 a59:=Tryz.isAgg120
 z59:=Tryz.sizeOf120
 v59:=Tryz.zeroValue120
 t146:=Tryz.underlying237
 a146:=Tryz.isAgg237
 z146:=Tryz.sizeOf237
 v146:=Tryz.zeroValue237
 g1:=by kernel_rfl }
def zdz:Go.Shelf.Ren:=⟨fun|146=>114|221=>169|268=>214|138=>215|143=>216|195=>237|197=>238|218=>239|219=>168|260=>250|217=>210|225=>211|224=>212|267=>213|266=>235|314=>236|n=>n,fun|9=>9|31=>44|3=>3|4=>4|0=>0|105=>255|21=>21|5=>5|46=>197|119=>282|139=>285|138=>284|146=>237|51=>236|n=>n,fun|1=>0|3=>6|4=>7|n=>n⟩
theorem zct:Go.Proofs.Lays.n146 Tryz.prog zdz:={
 mixed:=by kernel_rfl
 f138:=Tryz.func215.trans (congrArg some (by kernel_rfl))
 f143:=Tryz.func216.trans (congrArg some (by kernel_rfl))
 f146:=Tryz.func114.trans (congrArg some (by kernel_rfl))
 f195:=Tryz.func237.trans (congrArg some (by kernel_rfl))
 f197:=Tryz.func238.trans (congrArg some (by kernel_rfl))
 f217:=Tryz.func210.trans (congrArg some (by kernel_rfl))
 f218:=Tryz.func239.trans (congrArg some (by kernel_rfl))
 f219:=Tryz.func168.trans (congrArg some (by kernel_rfl))
 f221:=Tryz.func169.trans (congrArg some (by kernel_rfl))
 f224:=Tryz.func212.trans (congrArg some (by kernel_rfl))
 f225:=Tryz.func211.trans (congrArg some (by kernel_rfl))
 f260:=Tryz.func250.trans (congrArg some (by kernel_rfl))
 f266:=Tryz.func235.trans (congrArg some (by kernel_rfl))
 f267:=Tryz.func213.trans (congrArg some (by kernel_rfl))
 f268:=Tryz.func214.trans (congrArg some (by kernel_rfl))
 f314:=Tryz.func236.trans (congrArg some (by kernel_rfl))
 t0:=Tryz.underlying0
 a0:=Tryz.isAgg0
 z0:=Tryz.sizeOf0
 v0:=Tryz.zeroValue0
 t3:=Tryz.underlying3
 a3:=Tryz.isAgg3
 z3:=Tryz.sizeOf3
 v3:=Tryz.zeroValue3
 t4:=Tryz.underlying4
 a4:=Tryz.isAgg4
 z4:=Tryz.sizeOf4
 v4:=Tryz.zeroValue4
 t5:=Tryz.underlying5
 a5:=Tryz.isAgg5
 z5:=Tryz.sizeOf5
 v5:=Tryz.zeroValue5
 t9:=Tryz.underlying9
 a9:=Tryz.isAgg9
 z9:=Tryz.sizeOf9
 v9:=Tryz.zeroValue9
 t21:=Tryz.underlying21
 a21:=Tryz.isAgg21
 z21:=Tryz.sizeOf21
 v21:=Tryz.zeroValue21
 t31:=Tryz.underlying44
 a31:=Tryz.isAgg44
 z31:=Tryz.sizeOf44
 v31:=Tryz.zeroValue44
 t46:=Tryz.underlying197
 a46:=Tryz.isAgg197
 z46:=Tryz.sizeOf197
 v46:=Tryz.zeroValue197
 t51:=Tryz.underlying236
 a51:=Tryz.isAgg236
 z51:=Tryz.sizeOf236
 v51:=Tryz.zeroValue236
 t105:=Tryz.underlying255
 a105:=Tryz.isAgg255
 z105:=Tryz.sizeOf255
 v105:=Tryz.zeroValue255
 t119:=Tryz.underlying282
 a119:=Tryz.isAgg282
 z119:=Tryz.sizeOf282
 t138:=Tryz.underlying284
 a138:=Tryz.isAgg284
 z138:=Tryz.sizeOf284
 v138:=Tryz.zeroValue284
 t139:=Tryz.underlying285
 a139:=Tryz.isAgg285
 z139:=Tryz.sizeOf285
 v139:=Tryz.zeroValue285
 t146:=Tryz.underlying237
 a146:=Tryz.isAgg237
 z146:=Tryz.sizeOf237
 v146:=Tryz.zeroValue237
 g1:=by kernel_rfl
 g3:=by kernel_rfl
 g4:=by kernel_rfl }
set_option maxHeartbeats 1600000
structure yI (w:World):Prop where
 pows:zcY w
 maxLen:∃ m,w.cell? ⟨0,0,none⟩=some (.int .i64 m)
 syn:∃ ev,w.cell? ⟨2,0,none⟩=some ev∧(ev=.nilIface∨∃ te pe,ev=.iface te pe)
 rng:∃ ev,w.cell? ⟨3,0,none⟩=some ev∧(ev=.nilIface∨∃ te pe,ev=.iface te pe)
theorem XN {w:World}{b o:Nat}{v:Value}(h:w.cell? ⟨b,o,none⟩=some v):b<w.heap.size:=by
 rcases Nat.lt_or_ge b w.heap.size with h1|h1
 ·exact h1
 ·simp[World.cell?,Array.getElem?_eq_none h1]at h
theorem yI.grow {w w' : World}(h:yI w) (hb:Below w.heap.size w w'):yI w':=by
 obtain⟨h1,⟨m,h2⟩,⟨e3,h3,h4⟩,⟨e5,h5,h6⟩⟩:=h
 exact⟨h1.grow hb,⟨m,(hb.cell (p:=⟨_,0,none⟩) (XN h2)).trans h2⟩,⟨e3,(hb.cell (p:=⟨_,0,none⟩) (XN h3)).trans h3,h4⟩,⟨e5,(hb.cell (p:=⟨_,0,none⟩) (XN h5)).trans h5,h6⟩⟩
theorem zdA (n:Int) (h0:-9223372036854775808≤n) (h1:n≤9223372036854775807) (w:World) (hg:yI w):
  Calls Tryz.prog 34 #[.int .i64 n] w fun e w'=>e=.returned (.string ⟨(Lib.itoa n).toArray⟩)∧Below w.heap.size w w':=by
 refine(zcX n h0 h1 w hg.pows).mono ?_
 rintro e w' ⟨rfl,k,os,rfl⟩
 exact⟨rfl,G3 _ k os⟩
theorem zg0 (s:ByteArray) (c:UInt8) (hs:s.size≤1000000) (w:World) (hg:yI w):
  Calls Tryz.prog 67 #[.string s,.string ⟨#[c]⟩] w fun e w'=>e=.returned (.tuple #[yM (Lib.cut s.data.toList [c]).1,yM (Lib.cut s.data.toList [c]).2.1,.bool (Lib.cut s.data.toList [c]).2.2])∧Below w.heap.size w w':=by
 obtain⟨m,hm⟩:=hg.maxLen
 refine(Any.strings_Cut zeW s ⟨#[c]⟩ m w (by omega) hm).mono ?_
 rintro e w' ⟨rfl,k,rfl⟩
 exact⟨rfl,below_drewN (Below.refl _ _) k⟩
theorem zdB (s:ByteArray) (c:UInt8) (hs:s.size≤1000000) (w:World) (hg:yI w):
  Calls Tryz.prog 114 #[.string s,.string ⟨#[c]⟩] w fun e w'=>∃ b,e=.returned (.slice (some ⟨b,0,none⟩) (zE c s.data.toList).length (zE c s.data.toList).length)∧Loc w w' [(b,9,(zE c s.data.toList).map yM)] []:=by
 obtain⟨m,hm⟩:=hg.maxLen
 refine(Any.strings_Split zct (by kernel_rfl) s ⟨#[c]⟩ m w (by omega) hm (Nat.le_refl 1)).mono ?_
 rintro e w' ⟨rfl,rfl⟩
 rw[zam,V1]
 exact⟨_,rfl,(Loc.start w).box _ _⟩
def KL (l:List UInt8):Bool:=match Lib.atoiAll l with|.ok _=>true|_=>false
theorem zgv (s:ByteArray) (hs:s.size≤1000000) (w:World) (hg:yI w):
  Calls Tryz.prog 170 #[.string s] w fun e w'=>∃ ev,e=.returned (.tuple #[.int .i64 (QM s.data.toList),ev])∧Below w.heap.size w w'∧(KL s.data.toList=true→ev=.nilIface)∧(KL s.data.toList=false→∃ te pe,ev=.iface te pe):=by
 unfold QM KL
 rcases ha:Lib.atoiAll s.data.toList with n|_|_
 ·refine(Any.strconv_Atoi_ok UM s (by omega) n ha w).mono ?_
  rintro e w' ⟨rfl,hw⟩
  refine⟨_,rfl,?_,fun _=>rfl,fun h=>(by cases h)⟩
  rcases hw with rfl|⟨t,rfl⟩
  ·exact Below.refl _ _
  ·exact Lib.bytesWorld_below _ _ _
 ·obtain⟨ev,h1,h2⟩:=hg.syn
  refine(Any.strconv_Atoi_syntax UM s (by omega) ha ev w h1 h2).mono ?_
  rintro e w' ⟨N,rfl,-,-,hb⟩
  exact⟨_,rfl,hb,fun h=>(by cases h),fun _=>⟨_,_,rfl⟩⟩
 ·obtain⟨ev,h1,h2⟩:=hg.rng
  refine(Any.strconv_Atoi_range UM s (by omega) ha ev w h1 h2).mono ?_
  rintro e w' ⟨N,rfl,-,-,hb⟩
  exact⟨_,rfl,hb,fun h=>(by cases h),fun _=>⟨_,_,rfl⟩⟩
theorem zaO (l:List UInt8):yo l=(KL l&&(decide (l.length≤11)&&decide (Lib.itoa (QM l)=l))):=by
 unfold yo KL QM
 cases Lib.atoiAll l<;>simp
theorem zaP (s:ByteArray) (hs:s.size≤1000000) (w:World) (hg:yI w):
  Calls Tryz.prog 115 #[.string s] w fun e w'=>e=.returned (.tuple #[.int .i64 (QM s.data.toList),.bool (yo s.data.toList)])∧Below w.heap.size w w':=by
 have hln:s.data.toList.length=s.size:=Array.length_toList
 have HNB:=Lib.hid (zaO s.data.toList)
 have HG:=Lib.hid hg
 have HA:=Lib.hid (zgv s hs w hg)
 obtain⟨hb1,hb2⟩:=zak s.data.toList
 have HI:=Lib.hid (fun w' (hb:Below w.heap.size w w')=>zdA (QM s.data.toList) hb1 hb2 w' (HG.out.grow hb))
 clear hg
 generalize QM s.data.toList=n at HNB HA HI hb1 hb2 ⊢
 generalize KL s.data.toList=ok at HNB HA
 have hL:=Loc.start w
 go_enter Tryz.func115,Tryz.ntmps115
 cases ok with
 | false=>
  go_wp2_with (first|(go_at_call 170;refine HA.out.mono ?_;rintro e w3 ⟨ev,rfl,hb,-,hev⟩;obtain⟨te,pe,rfl⟩:=hev rfl;replace hL:=hL.grow hb;clear hb;dsimp only))
  (try simp only[Exit.inBlock,Exit.then]);refine rt2 ?_
  exact⟨by rw[HNB.out];rfl,hL.below⟩
 | true=>
  by_cases h11:s.size≤11
  ·have hd:decide ((s.size:Int)≤11)=true:=by simp;omega
   go_wp2_with (first|(go_at_call 170;refine HA.out.mono ?_;rintro e w3 ⟨ev,rfl,hb,hev,-⟩;obtain rfl:=hev rfl;replace hL:=hL.grow hb;clear hb;dsimp only)|(go_at_call 34;refine(HI.out _ hL.below).mono ?_;rintro e w1 ⟨rfl,hb⟩;replace hL:=hL.grow hb;clear hb;dsimp only))
   (try simp only[Exit.inBlock,Exit.then]);refine rt2 ?_
   refine⟨?_,hL.below⟩
   rw[HNB.out,show (decide (s.data.toList.length≤11))=true by simp;omega,show decide (Lib.itoa n=s.data.toList)=(Lib.itoa n==s.toList) by rw[Lib.toList_data,Bool.eq_iff_iff];simp]
   rfl
  ·have hd:decide ((s.size:Int)≤11)=false:=by simp;omega
   go_wp2_with (first|(go_at_call 170;refine HA.out.mono ?_;rintro e w3 ⟨ev,rfl,hb,hev,-⟩;obtain rfl:=hev rfl;replace hL:=hL.grow hb;clear hb;dsimp only)|(go_at_call 34;refine(HI.out _ hL.below).mono ?_;rintro e w1 ⟨rfl,hb⟩;replace hL:=hL.grow hb;clear hb;dsimp only))
   (try simp only[Exit.inBlock,Exit.then]);refine rt2 ?_
   exact⟨by rw[HNB.out,show (decide (s.data.toList.length≤11))=false by simp;omega];rfl,hL.below⟩
theorem Gy {H:Type}{enc:TypeId × Value→H}{a:Assume}{C:Checked}{os:Os}{f:FuncId}{fn:Func}{s:ChangeSpec}{conds:List PathCond}{apart fresh handsOn again:Bool}{X:World→Array Value→Prop}
  (hX:∀ (w w' : World) (args:Array Value),w.heap=w'.heap→X w args→X w' args)
  (own:ownKnob C.prog.godebug=none) (started:os.Started) (noInit:C.prog.inits.idxOf? f=none) (hfn:C.prog.funcs[f]? = some fn)
  (witness:∃ (w:World) (tape:Tape) (i:Input),w.os=os∧(w.forCall tape i).Shaped C.prog∧i.vars=[]∧Input.okWide C.prog (w.forCall tape i) .any w.heap.size f i∧
   ((s.pre enc C.prog fn conds apart (w.forCall tape i).memory i.args∧X (w.forCall tape i).memory i.args)∧sizedMet enc C.prog fn (OpenSpec.ofChange s) apart (w.forCall tape i).memory i.args)∧a.holds C.prog (lone (Frame.enter C.prog f i.args .normal) [] (w.forCall tape i)))
  (contract:∀ (W:World) (base:Nat) (args:Array Value) (ds gs:List (DataW H)) (before:List MemPlace),
   (∀ (j:Nat) t v,fn.params[j]? = some t→args[j]? = some v→Value.okWide C.prog W .any base t v)→
   DataW.Whole enc C.prog fn.params.toList s.vars apart W args.toList ds gs before→
   (DataW.weightsEach C.prog (fn.params.toList++s.plain.varTypes C.prog) (ds++gs)).all (·≤reachBytes)=true→X W args→W.ShapedOpen C.prog→
   Calls C.prog f args W fun e W'=>∃ v,e=.returned v∧s.post enc C.prog fn apart fresh handsOn again W args v W'):
  ReturnsInHanded a C os f .any (fun w args=>(s.pre enc C.prog fn conds apart w args∧X w args)∧sizedMet enc C.prog fn (OpenSpec.ofChange s) apart w args) (s.post enc C.prog fn apart fresh handsOn again):=by
 refine returnsInHanded_of_calls own started noInit witness ?_
 intro w tape i _ hsh _ hok hpre _
 obtain⟨_,_,_,fn',hfn',_,_,_,_,hval⟩:=hok
 obtain rfl:fn'=fn:=Option.some.inj (hfn'.symm.trans hfn)
 obtain⟨⟨⟨ds,gs,before,hw,hc⟩,hx⟩,hz⟩:=hpre
 refine(contract (w.forCall tape i) w.heap.size i.args ds gs before hval (DataW.Whole.of_heap (w':=w.forCall tape i) (by rfl) hw) (hz.weights hw) (hX _ _ _ (by rfl) hx) hsh).mono fun e W' ⟨v,he,hp⟩=>?_
 subst he
 exact ChangeSpec.post_blind hp
theorem Gz {P:Program}{W:World}{n:String}{g:Nat}{v:Value}(hg:P.globalNamed n=some g) (h:W.var? P n=some #[v]):W.cell? ⟨g,0,none⟩=some v:=by
 unfold World.var? at h
 rw[hg]at h
 simp only[Option.bind_some]at h
 cases hh:W.heap[g]? with
 | none=>rw[hh]at h;cases h
 | some o=>
  rw[hh]at h
  cases o<;>simp at h
  simp[World.cell?,hh,h]
end Go.Proofs.YtplcndmdkabmeaaGreatDoor
