/- strconv.Itoa's contract at this dump, as the kit's own printer (lay-plain.mjs) writes it: it holds for every int, where the table of powers reads as it is laid. Conditions: that table. | The library's table of powers of ten, and Itoa over it. Conditions: the table reads as it is laid. | The walk over run.line: the line that a value is printed as. Conditions: the library's table of powers reads as it is laid; the number is an int. | The walks over the machine's take and onward. Conditions: the indexes and numbers that a right program and a right run have; the inputs lie in memory that was there. | The walk over the machine's onward. Conditions: the indexes and numbers that a right program and a right run have; the library's table of powers. -/
import Derived.Shelf.Strconv.Itoa0
import Derived.Shelf.Strconv.Itoa1
import Derived.Shelf.LaysM
import Derived.Shelf.Strconv.Itoa2
import Derived.Shelf.Strconv.Itoa3
import Derived.Test.YtplcndmdkabmeaaGreatDoorRows
import Derived.Test.YtplcndmdkabmeaaGreatDoorCod
import Derived.Test.YtplcndmdkabmeaaGreatDoorRunJ
set_option linter.unusedSimpArgs false
set_option linter.unusedVariables false
set_option maxRecDepth 100000
namespace Go.Proofs.YtplcndmdkabmeaaGreatDoor
open Go.Proofs.Tryz
open Go.RowKit
open Go.Shelf
def zha:Go.Shelf.Ren:=⟨fun|171=>34|243=>70|246=>118|283=>171|284=>172|285=>173|286=>174|129=>220|317=>219|318=>221|319=>222|320=>223|337=>245|338=>246|n=>n,fun|3=>3|9=>9|2=>2|4=>4|171=>207|0=>0|53=>208|37=>90|5=>5|173=>211|212=>245|51=>236|20=>20|213=>246|46=>197|232=>272|233=>273|n=>n,fun|17=>1|18=>4|19=>5|n=>n⟩
theorem zfS:Go.Proofs.LaysM.n171 prog zha:={
 mixed:=by kernel_rfl
 f129:=func220.trans (congrArg some (by kernel_rfl))
 f171:=func34.trans (congrArg some (by kernel_rfl))
 f243:=func70.trans (congrArg some (by kernel_rfl))
 f246:=func118.trans (congrArg some (by kernel_rfl))
 f283:=func171.trans (congrArg some (by kernel_rfl))
 f284:=func172.trans (congrArg some (by kernel_rfl))
 f285:=func173.trans (congrArg some (by kernel_rfl))
 f286:=func174.trans (congrArg some (by kernel_rfl))
 f317:=func219.trans (congrArg some (by kernel_rfl))
 f318:=func221.trans (congrArg some (by kernel_rfl))
 f319:=func222.trans (congrArg some (by kernel_rfl))
 f320:=func223.trans (congrArg some (by kernel_rfl))
 f337:=func245.trans (congrArg some (by kernel_rfl))
 f338:=func246.trans (congrArg some (by kernel_rfl))
 t0:=underlying0
 a0:=isAgg0
 z0:=sizeOf0
 v0:=zeroValue0
 t2:=underlying2
 a2:=isAgg2
 z2:=sizeOf2
 v2:=zeroValue2
 t3:=underlying3
 a3:=isAgg3
 z3:=sizeOf3
 v3:=zeroValue3
 t4:=underlying4
 a4:=isAgg4
 z4:=sizeOf4
 v4:=zeroValue4
 t5:=underlying5
 a5:=isAgg5
 z5:=sizeOf5
 v5:=zeroValue5
 t9:=underlying9
 a9:=isAgg9
 z9:=sizeOf9
 v9:=zeroValue9
 t20:=underlying20
 a20:=isAgg20
 z20:=sizeOf20
 v20:=zeroValue20
 t37:=underlying90
 a37:=isAgg90
 z37:=sizeOf90
 v37:=zeroValue90
 t46:=underlying197
 a46:=isAgg197
 z46:=sizeOf197
 v46:=zeroValue197
 t51:=underlying236
 a51:=isAgg236
 z51:=sizeOf236
 v51:=zeroValue236
 t53:=underlying208
 a53:=isAgg208
 z53:=sizeOf208
 v53:=zeroValue208
 t171:=underlying207
 a171:=isAgg207
 z171:=sizeOf207
 v171:=zeroValue207
 t173:=underlying211
 a173:=isAgg211
 z173:=sizeOf211
 v173:=zeroValue211
 t212:=underlying245
 a212:=isAgg245
 z212:=sizeOf245
 v212:=zeroValue245
 t213:=underlying246
 a213:=isAgg246
 z213:=sizeOf246
 t232:=underlying272
 a232:=isAgg272
 z232:=sizeOf272
 v232:=zeroValue272
 t233:=underlying273
 a233:=isAgg273
 z233:=sizeOf273
 v233:=zeroValue273
 g17:=by kernel_rfl
 g18:=by kernel_rfl
 g19:=by kernel_rfl
 i0:=by kernel_rfl
 i2:=by kernel_rfl
 i3:=by kernel_rfl
 i4:=by kernel_rfl
 i5:=by kernel_rfl
 i9:=by kernel_rfl
 i20:=by kernel_rfl
 i37:=by kernel_rfl
 i46:=by kernel_rfl
 i51:=by kernel_rfl
 i53:=by kernel_rfl
 i171:=by kernel_rfl
 i173:=by kernel_rfl
 i212:=by kernel_rfl
 i232:=by kernel_rfl
 i233:=by kernel_rfl
 m17:=by kernel_rfl
 m18:=by kernel_rfl
 m19:=by kernel_rfl }
open Go.RowKit Go.Sort Go.Lib in
theorem zev (n : Int) (g : -9223372036854775808 <= n) (i : n <= 9223372036854775807) (w : World) (j : Lib.TabIs prog w "internal/strconv.uint64pow10" .u64 Lib.pow10Tab) :
  Calls prog 34 #[.int .i64 n] w fun e p=>e=.returned (.string ⟨(Lib.itoa n).toArray⟩)∧∃ k o,p=grow (w.drewN k) o:=Any.strconv_Itoa zfS n g i w j
theorem za9 (w:World) (k:Nat) (os:Array Obj):Below w.heap.size w (Sort.grow (w.drewN k) os):=by
 refine⟨rfl,rfl,rfl,by simp[Sort.grow],fun b g=>?_⟩;show ((w.drewN k).heap++os)[b]? = w.heap[b]?
 have:(w.drewN k).heap=w.heap:=rfl;rw[this,Array.getElem?_append_left g]
def ZO (w : World) : Prop := Lib.TabIs prog w "internal/strconv.uint64pow10" .u64 Lib.pow10Tab
theorem ZO.grow {w w' : World}(h:ZO w) (hb:Below w.heap.size w w'):ZO w':=by
 unfold ZO Lib.TabIs World.var? at *;obtain⟨i,p,g⟩:=Option.bind_eq_some_iff.1 h;refine Option.bind_eq_some_iff.2 ⟨i,p,?_⟩;cases j:w.heap[i]? with
 | none=>rw[j]at g;cases g
 | some o=>rw[hb.block _ (zz j)];exact g
set_option maxHeartbeats 1600000
def Yz (v:Vl):ByteArray:=if v.kind=1 then ⟨(Lib.itoa v.n).toArray⟩ else if v.kind=2 then (if v.n=1 then ⟨#[116,114,117,101]⟩ else ⟨#[102,97,108,115,101]⟩) else if v.kind=3 then ⟨#[116,104,105,110,103]⟩ else ⟨#[110,117,108,108]⟩
theorem zfT (v:Vl) (w:World) (g:-9223372036854775808<=v.n) (i:v.n<=9223372036854775807) (ht:ZO w):
  Calls prog 135 #[v.v] w fun e j=>e=.returned (.string (Yz v))∧Below w.heap.size w j:=by
 have p:=za ht;clear ht;obtain⟨k,n⟩:=v;dsimp only at g i;have J:=Loc.start w;have I:k=1∨(k=2∧n=1)∨(k=2∧(n==1)=false)∨k=3∨((k==1)=false∧(k==2)=false∧(k==3)=false):=by simp only[beq_eq_false_iff_ne];omega
 rcases I with rfl|⟨rfl,rfl⟩|⟨rfl,ac⟩|rfl|⟨U,aa,ab⟩
 ·have o:=za (fun j (C:Below w.heap.size w j)=>zev n g i j (p.out.grow C))
  clear g i;go_enter func135,ntmps135;go_wp2_with (first|(with_reducible first|refine lld J ?_|(refine lbx J ?_;clear J;intro t T J))|(go_at_call 34;refine(o.out _ J.below).mono ?_;rintro e ad ⟨rfl,P,R,rfl⟩;replace J:=J.grow (za9 _ P R);dsimp only));refine rt1 ?_;exact⟨by simp[Yz],J.below⟩
 all_goals
  clear g i;go_enter func135,ntmps135;go_wp2_with (first|(with_reducible first|refine lld J ?_|(refine lbx J ?_;clear J;intro t T J))|go_in);refine rt1 ?_
  first|exact⟨by simp[Yz];rfl,J.below⟩|exact⟨by simp_all [Yz];rfl,J.below⟩|exact⟨by simp_all [Yz],J.below⟩
set_option maxHeartbeats 4000000
def JZ (w:World) (ins:Sl) (xs:Nat->Int):Prop:=zZ w 1 ins.p ins.n (fun k=>[.int .i64 (xs k)])∧ins.n<=9223372036854775807
def V2 (i:Ins) (ins:Sl) (xs:Nat->Int) (s:Rs):Int:=if s.taken<ins.n then max (-i.n) (min i.n (xs s.taken.toNat)) else 0
def Zo (i:Ins) (t:Nat) (ins:Sl) (xs:Nat->Int) (s:Rs):Rs:=Rs.set { s with taken:=wrap64 (s.taken+1) } t ⟨1,V2 i ins xs s⟩
theorem zfU (w0:World) (bm:Nat) (p:Pg) (ins:Sl) (xs:Nat->Int) (s:Rs) (i:Ins) (t:Nat) (w:World) (h:zY w0 bm p ins s w) (a1:JZ w0 ins xs) (hi:i.to=t) (ht:t<s.vars.length) (hn:0<=i.n∧i.n<=1000000) (a3:0<=s.taken∧s.taken<=9223372036854775807) (ag:0<=s.at'∧s.at'<=1000000):
  Calls prog 94 #[.pointer (some ⟨bm,0,none⟩),i.v] w fun e a6=>e=.returned (.tuple #[])∧zY w0 bm p ins (Zo i t ins xs s) a6:=by
 obtain⟨r,a5,ac,ab,aa,az,g,J⟩:=h;have ae:yE { r with taken:=wrap64 (s.taken+1) } { s with taken:=wrap64 (s.taken+1) } a5 ac ab aa az:=⟨g.vars,g.things,g.lines,g.fields,g.a,rfl,g.e⟩;have al:=g.t;obtain⟨aj,a9⟩:=a1;obtain⟨b,o,ak,ah⟩:=aj.ex;have U:=za ak;have I:=za ah;have R:=za (And.intro ht ag);obtain⟨kind,to,ar,au,num,goto⟩:=i;obtain⟨aC,aI,aE,aF,aH,aD⟩:=r;dsimp only at hi hn al ae;subst hi;subst al;have HR:=za ae;obtain⟨aA,aB⟩:=hn;obtain⟨an,ao⟩:=a3;clear g ae ak ah ht ag aj;by_cases C:s.taken<ins.n
 ·obtain⟨k,T⟩:∃ k:Nat,s.taken=k:=⟨s.taken.toNat,by omega⟩
  have ai:k<ins.n:=by omega
  have ax:=za (U.out (by omega));have ay:=za (show zd prog 3 w0 b (o+k) (.int .i64 (xs k)) by have h:=zd.cell (P:=prog) y2 (I.out k ai).1 ((I.out k ai).2 0 _ rfl);rw[Nat.mul_one,Nat.add_zero]at h;exact h);have j:=za (show Zo ⟨kind,t,ar,au,num,goto⟩ t ins xs s=Rs.set { s with taken:=wrap64 (s.taken+1) } t ⟨1,max (-num) (min num (xs k))⟩ by
   unfold Zo V2;rw[if_pos C,T];rfl)
  have a8:=za T;generalize a2:s.taken=av at C T j HR J an ao ⊢;subst T;clear U I;go_enter func94,ntmps94;go_upto_region 2 with(with_reducible refine lbx J ?_;clear J;intro a0 af J)
  refine zb [5,6,7,8,9,10,11,12,13,14,15] ?_
  iterate 11 refine qdv ?_
  refine dnd J ?_;clear J;intro a7 J;simp only[zr,sTa,sTb];go_upto_region 3 with(fail)
  refine zb [16,17,18,19,20,21,22,23,24,25,26,27,28,29,30,31,32,33,4] ?_
  iterate 14 refine qdv ?_
  refine qdx ax.out ?_;refine qdl ay.out ?_
  iterate 3 refine qdv ?_
  refine dnd J ?_;clear J;intro aw J;simp only[zr,sTa,sTb];have aq:wrap64 ((k:Int)+1)=k+1:=Go.IntWalk.wrap64_in _ (by omega);rw[aq]at HR j;clear aq;go_wp2_with (first|(with_reducible first|refine lld J ?_|(refine zc J ?_;clear J;intro af J))|(go_at_call 88;refine(j6 w0 bm p ins _ t ⟨_,_⟩ _ ⟨_,_,ac,ab,aa,_,HR.out,J.drop (List.sublist_cons_self _ _) (fun _ h=>h)⟩ R.out.1 R.out.2).mono ?_;rintro e aw ⟨rfl,ad⟩;dsimp only))
  (try simp only[Exit.inBlock,Exit.then]);(first|refine qv rfl rfl ?_|refine qw rfl rfl ?_)
  exact⟨rfl,by rw[j.out];exact ad⟩
 ·have j:=za (show Zo ⟨kind,t,ar,au,num,goto⟩ t ins xs s=Rs.set { s with taken:=wrap64 (s.taken+1) } t ⟨1,0⟩ by
   unfold Zo V2;rw[if_neg C])
  generalize a2:s.taken=av at C j HR J an ao ⊢;clear U I;replace C:(ins.n:Int)<=av:=by omega
  go_enter func94,ntmps94;go_upto_region 2 with(with_reducible refine lbx J ?_;clear J;intro a0 af J)
  refine zb [5,6,7,8,9,10,11,12,13,14,15] ?_
  iterate 11 refine qdv ?_
  refine dnd J ?_;clear J;intro a7 J;simp only[zr,sTa,sTb];go_wp2_with (first|(with_reducible first|refine lld J ?_|(refine zc J ?_;clear J;intro af J))|(go_at_call 88;refine(j6 w0 bm p ins _ t ⟨_,_⟩ _ ⟨_,_,ac,ab,aa,_,HR.out,J.drop (List.sublist_cons_self _ _) (fun _ h=>h)⟩ R.out.1 R.out.2).mono ?_;rintro e aw ⟨rfl,ad⟩;dsimp only))
  (try simp only[Exit.inBlock,Exit.then]);(first|refine qv rfl rfl ?_|refine qw rfl rfl ?_)
  exact⟨rfl,by rw[j.out];exact ad⟩
set_option maxHeartbeats 1000000
def qA (kind goto:Int) (a:Nat) (s:Rs):Rs:=
 if kind=16 then { s with at':=goto }
 else if kind=15 then (if yF (s.val a) then { s with at':=goto } else { s with at':=s.at' + 1 })
 else if kind=17 then (if yF (s.val a) then { s with at':=s.at' + 1 } else { s with ending:=3 })
 else if kind=18 then { s with lines:=s.lines++[Yz (s.val a)],at':=s.at' + 1 }
 else { s with ending:=1 }
theorem KK (w0:World) (bm:Nat) (p:Pg) (ins:Sl) (s:Rs) (i:Ins) (w:World) (h:zY w0 bm p ins s w) (hk:i.kind=16∨i.kind=19):
  Calls prog 95 #[.pointer (some ⟨bm,0,none⟩),i.v] w fun e al=>e=.returned (.tuple #[])∧zY w0 bm p ins (qA i.kind i.goto i.a.toNat s) al:=by
 obtain⟨r,P,C,t,o,j,I,J⟩:=h;obtain⟨kind,to,ao,aq,num,goto⟩:=i;have g:=za I;obtain⟨ar,ak,ah,ai,aj,ag⟩:=r;dsimp only at hk;clear I;rcases hk with rfl|rfl
 ·go_enter func95,ntmps95
  go_wp2_with (with_reducible first|refine lld J ?_|(refine lbx J ?_;clear J;intro T R J)|(refine zc J ?_;clear J;intro R J))
  (try simp only[Exit.inBlock,Exit.then]);(first|refine qv rfl rfl ?_|refine qw rfl rfl ?_)
  obtain⟨U,aa,ab,ac,an,ad,ae⟩:=g.out;exact⟨rfl,⟨goto,ak,ah,ai,aj,ag⟩,P,C,t,o,j,⟨U,aa,ab,ac,rfl,ad,ae⟩,J.drop (List.sublist_cons_self _ _) (fun _ h=>h)⟩
 ·go_enter func95,ntmps95
  go_wp2_with (first|(with_reducible first|refine lld J ?_|(refine lbx J ?_;clear J;intro T R J))|(go_at_call 48;refine(Qt w0 bm p ins s 1 _ ⟨_,P,C,t,o,j,g.out,J.drop (List.sublist_cons_self _ _) (fun _ h=>h)⟩).mono ?_;rintro e au ⟨rfl,af⟩;dsimp only))
  (try simp only[Exit.inBlock,Exit.then]);(first|refine qv rfl rfl ?_|refine qw rfl rfl ?_)
  exact⟨rfl,by simpa [qA] using af⟩
theorem Y0 (w0:World) (bm:Nat) (p:Pg) (ins:Sl) (s:Rs) (i:Ins) (a:Nat) (w:World) (h:zY w0 bm p ins s w) (hk:i.kind=15∨i.kind=17∨i.kind=18) (hi:i.a=a) (ha:a<s.vars.length) (a9:0<=s.at'∧s.at'<=1000000)
  (hn:-9223372036854775808<=(s.val a).n∧(s.val a).n<=9223372036854775807) (aB:s.lines.length*16+16<=140737488355328) (aE:ZO w0):
  Calls prog 95 #[.pointer (some ⟨bm,0,none⟩),i.v] w fun e an=>e=.returned (.tuple #[])∧zY w0 bm p ins (qA i.kind i.goto a s) an:=by
 obtain⟨r,aN,bo,C,aj,ab,o,J⟩:=h;have bj:=o.vars.flatlen jc (by decide);have aC:=o.lines.flatlen zeA (by decide);obtain⟨gv,T,aH,rfl,bi,bg⟩:=o.vars.block (by omega);have aF:∀ X:List zg,(C++(ab++X)).Perm (C++(X++ab)):=fun X=>List.Perm.append_left C List.perm_append_comm
 replace J:=J.perm (((aF aj).append_left [(gv,77,T)]).cons _);simp only[aX]at J;have aA:=o.vars.elem jc dV (k:=a) (by omega);obtain⟨ag,ak⟩:∃ x,x=s.val a:=⟨_,rfl⟩;have aa:=za (show zn prog 77 T (a*2) ag.v by rw[ak];exact zn.agg jk aA rfl);rw[<- ak]at hn;have P:=za o;have bd:a<r.vars.n:=by omega
 have ar:=o.a;have aD:maxLen=9223372036854775807:=rfl;have HX:=za (And.intro aC (And.intro aB (And.intro hn (And.intro ak aD))));have aQ:=za aE;obtain⟨kind,to,bp,bq,num,goto⟩:=i;dsimp only at hi hk;subst hi;rw[<- ar]at a9;obtain⟨bc,be⟩:=a9;have ah:=za ar;clear o aA bj bi bg ha ak aC aB aF hn aE ar aD;obtain⟨al,⟨br,a4,a3⟩,a2,a1,⟨aL,ay,aK⟩,af⟩:=r;dsimp only at aH bd bc be;subst aH;have ai:=za (fun (az a0 : Int) (U : Rs) (an : World) (ae:U.at'=az) (aq:U.ending=a0) (a8:U.vars=s.vars∧U.things=s.things∧U.lines=s.lines∧U.taken=s.taken)
   (J:Loc w0 an ((bm,100,q8 p ⟨az,⟨some ⟨gv,0,none⟩,a4,a3⟩,a2,a1,⟨aL,ay,aK⟩,a0⟩ ins)::(gv,77,T)::(C++(ab++aj))) [])=>(by
    obtain⟨au,av,aI,aw,bl,ax,aJ⟩:=P.out;obtain⟨aT,aU,aV,aW⟩:=a8;refine⟨⟨az,⟨some ⟨gv,0,none⟩,a4,a3⟩,a2,a1,⟨aL,ay,aK⟩,a0⟩,aN,[(gv,77,T)],C,aj,ab,⟨by rw[aT];exact au,av,by rw[aV];exact aI,by rw[aU];exact aw,ae.symm,by rw[aW];exact ax,aq.symm⟩,?_⟩;exact J.perm (((List.Perm.append_left C List.perm_append_comm).append_left [(gv,77,T)]).cons _):zY w0 bm p ins U an))
 rcases hk with rfl|rfl|rfl
 ·go_enter func95,ntmps95
  go_upto_region 5 with(with_reducible first|refine lld J ?_|(refine lbx J ?_;clear J;intro ao ad J))
  refine zb [16,17,18,19,20,21,22,23,24,25] ?_
  iterate 8 refine qdv ?_
  refine yT aa.out ?_;refine qdk J (fun _ ac J=>YN _ _) ?_;refine dnd J ?_;clear J;intro aO J;simp only[zr,sTa,sTb];clear aa;cases I:yF ag with
  | true=>
   have t:=za (show qA 15 goto a s={ s with at':=goto } by rw[qA,if_neg (by decide),if_pos rfl,<- HX.out.2.2.2.1,if_pos I]);clear I;go_wp2_with (with_reducible first|refine lld J ?_|(refine zc J ?_;clear J;intro ad J))
   (try simp only[Exit.inBlock,Exit.then]);(first|refine qv rfl rfl ?_|refine qw rfl rfl ?_)
   exact⟨rfl,by rw[t.out];exact ai.out goto af _ _ rfl P.out.e.symm ⟨rfl,rfl,rfl,rfl⟩ (J.drop (List.sublist_cons_self _ _) (fun _ h=>h))⟩
  | false=>
   have t:=za (show qA 15 goto a s={ s with at':=s.at' + 1 } by rw[qA,if_neg (by decide),if_pos rfl,<- HX.out.2.2.2.1,I];rfl);clear I;go_wp2_with (with_reducible first|refine lld J ?_|(refine zc J ?_;clear J;intro ad J))
   (try simp only[Exit.inBlock,Exit.then]);(first|refine qv rfl rfl ?_|refine qw rfl rfl ?_)
   exact⟨rfl,by rw[t.out];exact ai.out (al+1) af _ _ (by have:=ah.out;dsimp only at this ⊢;rw[this]) P.out.e.symm ⟨rfl,rfl,rfl,rfl⟩ (J.drop (List.sublist_cons_self _ _) (fun _ h=>h))⟩
 ·go_enter func95,ntmps95
  go_upto_region 8 with(with_reducible first|refine lld J ?_|(refine lbx J ?_;clear J;intro ao ad J))
  refine zb [34,35,36,37,38,39,40,41,42,43,44] ?_
  iterate 8 refine qdv ?_
  refine yT aa.out ?_;refine qdk J (fun _ ac J=>YN _ _) ?_;refine qdv ?_;refine dnd J ?_;clear J;intro aO J;simp only[zr,sTa,sTb];clear aa;cases I:yF ag with
  | true=>
   have t:=za (show qA 17 goto a s={ s with at':=s.at' + 1 } by rw[qA,if_neg (by decide),if_neg (by decide),if_pos rfl,<- HX.out.2.2.2.1,if_pos I]);clear I;go_wp2_with (with_reducible first|refine lld J ?_|(refine zc J ?_;clear J;intro ad J))
   (try simp only[Exit.inBlock,Exit.then]);(first|refine qv rfl rfl ?_|refine qw rfl rfl ?_)
   exact⟨rfl,by rw[t.out];exact ai.out (al+1) af _ _ (by have:=ah.out;dsimp only at this ⊢;rw[this]) P.out.e.symm ⟨rfl,rfl,rfl,rfl⟩ (J.drop (List.sublist_cons_self _ _) (fun _ h=>h))⟩
  | false=>
   have t:=za (show qA 17 goto a s={ s with ending:=3 } by rw[qA,if_neg (by decide),if_neg (by decide),if_pos rfl,<- HX.out.2.2.2.1,I];rfl);clear I;go_wp2_with (first|fail|(go_at_call 48;refine(Qt w0 bm p ins s 3 _ (ai.out al af s _ ah.out.symm P.out.e.symm ⟨rfl,rfl,rfl,rfl⟩ (J.drop (List.sublist_cons_self _ _) (fun _ h=>h)))).mono ?_;rintro e bs ⟨rfl,aZ⟩;dsimp only))
   (try simp only[Exit.inBlock,Exit.then]);(first|refine qv rfl rfl ?_|refine qw rfl rfl ?_)
   exact⟨rfl,by rw[t.out];exact aZ⟩
 ·go_enter func95,ntmps95
  go_upto_region 11 with(with_reducible first|refine lld J ?_|(refine lbx J ?_;clear J;intro ao ad J))
  refine zb [49,50,51,52,53,54,55,56,57,58,59,60,61,62,63,64,65] ?_
  iterate 14 refine qdv ?_
  refine yT aa.out ?_;refine qdk J (fun _ ac J=>zfT _ _ HX.out.2.2.1.1 HX.out.2.2.1.2 (aQ.out.grow J.below)) ?_;refine qdw ?_;refine de1 0 J ?_ ?_
  ·(refine yj rfl rfl ?_;intro g w ac v;(try simp[zD,List.filter_cons,Region.binds,j7,RAt]at v);simp only[fD];(try simp only[v]);exact⟨_,.inl ⟨rfl,fun w=>(by go_simp<;>(try (split<;>(rename_i bh;simp[bh,cnd]))))⟩,rfl⟩)
  intro g aO ac o q;simp only[aG]at q;obtain⟨a5,aM,a7,a6⟩:=qye o 16;clear o;simp only[fD];simp only[q,a7];clear q a7;replace J:=J.more1 ac aM a6;clear aM a6;clear ac;clear aa;have t:=za (show qA 18 goto a s={ s with lines:=s.lines++[Yz ag],at':=s.at' + 1 } by rw[qA,if_neg (by decide),if_neg (by decide),if_neg (by decide),if_pos rfl,<- HX.out.2.2.2.1]);have aP:=za P.out.lines;go_wp2_with (first|(refine zF (K:=(ao,_,_)::(bm,_,_)::(gv,_,_)::(C++ab)) (R:=aj) (news:=[.string (Yz ag)]) aP.out J (by simp only[List.cons_append,List.append_assoc];rfl) rfl rfl Gb zik (by decide) rfl (fun _=>⟨⟨a5,0,none⟩,rfl,fun j u bf=>by rw[zG,Nat.zero_add];exact zP (J.get (S:=y6 a5 _ _) List.mem_cons_self) j bf⟩) rfl (by simp[Value.oneCell']) (by have ae:=HX.out.1;have aq:=HX.out.2.1;have a8:=HX.out.2.2.2.2;dsimp only at ae;omega) (by have ae:=HX.out.1;have aq:=HX.out.2.1;dsimp only at ae;omega) ?_;clear J;intro bn aS aR bt bb J;simp only[List.cons_append,List.append_assoc]at J)|(with_reducible first|refine lld J ?_|(refine zc J ?_;clear J;intro ad J)))
  (try simp only[Exit.inBlock,Exit.then]);(first|refine qv rfl rfl ?_|refine qw rfl rfl ?_)
  obtain⟨au,av,aI,aw,bl,ax,aJ⟩:=P.out;rw[t.out];refine⟨rfl,⟨al+1,⟨some ⟨gv,0,none⟩,a4,a3⟩,a2,a1,⟨bn,ay+1,aS⟩,af⟩,aN,[(gv,77,T)],C,aR,ab,⟨au,av,by simpa [Gf] using bb,aw,?_,ax,aJ⟩,?_⟩
  ·have:=ah.out;dsimp only at this ⊢;rw[this]
  ·have h:=J.drop (D':=[]) (List.sublist_cons_self _ _) (fun S ba=>by cases ba)
   exact h.perm (((List.Perm.append_left C List.perm_append_comm).append_left [(gv,77,T)]).cons _)
end Go.Proofs.YtplcndmdkabmeaaGreatDoor
