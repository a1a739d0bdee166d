/-  -/
import Derived.Shelf.Strconv.Itoa0
import Derived.Shelf.Strconv.Itoa1
import Derived.Shelf.LaysM
import Derived.Shelf.Strconv.Itoa2
import Derived.Shelf.Strconv.Itoa3
import Derived.Test.YteoilpcbekijlaaGreatDoorRows
import Derived.Test.YteoilpcbekijlaaGreatDoorRunJ
set_option linter.unusedSimpArgs false
set_option linter.unusedVariables false
set_option maxRecDepth 100000
namespace Go.Proofs.YteoilpcbekijlaaGreatDoor
open Go.RowKit
open Go.Shelf
def itoaRen:Go.Shelf.Ren:=⟨fun|171=>39|243=>79|246=>145|283=>186|284=>187|285=>188|286=>189|129=>226|317=>225|318=>227|319=>228|320=>229|337=>248|338=>249|n=>n,fun|3=>3|9=>9|2=>2|4=>4|171=>217|0=>0|53=>218|37=>94|5=>5|173=>221|212=>249|51=>233|20=>20|213=>250|46=>200|232=>274|233=>275|n=>n,fun|17=>1|18=>4|19=>5|n=>n⟩
theorem itoaLays:Go.Proofs.LaysM.n171 Tryz.prog itoaRen:={
 mixed:=by kernel_rfl
 f129:=Tryz.func226.trans (congrArg some (by kernel_rfl))
 f171:=Tryz.func39.trans (congrArg some (by kernel_rfl))
 f243:=Tryz.func79.trans (congrArg some (by kernel_rfl))
 f246:=Tryz.func145.trans (congrArg some (by kernel_rfl))
 f283:=Tryz.func186.trans (congrArg some (by kernel_rfl))
 f284:=Tryz.func187.trans (congrArg some (by kernel_rfl))
 f285:=Tryz.func188.trans (congrArg some (by kernel_rfl))
 f286:=Tryz.func189.trans (congrArg some (by kernel_rfl))
 f317:=Tryz.func225.trans (congrArg some (by kernel_rfl))
 f318:=Tryz.func227.trans (congrArg some (by kernel_rfl))
 f319:=Tryz.func228.trans (congrArg some (by kernel_rfl))
 f320:=Tryz.func229.trans (congrArg some (by kernel_rfl))
 f337:=Tryz.func248.trans (congrArg some (by kernel_rfl))
 f338:=Tryz.func249.trans (congrArg some (by kernel_rfl))
 t0:=Tryz.underlying0
 a0:=Tryz.isAgg0
 z0:=Tryz.sizeOf0
 v0:=Tryz.zeroValue0
 t2:=Tryz.underlying2
 a2:=Tryz.isAgg2
 z2:=Tryz.sizeOf2
 v2:=Tryz.zeroValue2
 t3:=Tryz.underlying3
 a3:=Tryz.isAgg3
 z3:=Tryz.sizeOf3
 v3:=Tryz.zeroValue3
 t4:=Tryz.underlying4
 a4:=Tryz.isAgg4
 z4:=Tryz.sizeOf4
 v4:=Tryz.zeroValue4
 t5:=Tryz.underlying5
 a5:=Tryz.isAgg5
 z5:=Tryz.sizeOf5
 v5:=Tryz.zeroValue5
 t9:=Tryz.underlying9
 a9:=Tryz.isAgg9
 z9:=Tryz.sizeOf9
 v9:=Tryz.zeroValue9
 t20:=Tryz.underlying20
 a20:=Tryz.isAgg20
 z20:=Tryz.sizeOf20
 v20:=Tryz.zeroValue20
 t37:=Tryz.underlying94
 a37:=Tryz.isAgg94
 z37:=Tryz.sizeOf94
 v37:=Tryz.zeroValue94
 t46:=Tryz.underlying200
 a46:=Tryz.isAgg200
 z46:=Tryz.sizeOf200
 v46:=Tryz.zeroValue200
 t51:=Tryz.underlying233
 a51:=Tryz.isAgg233
 z51:=Tryz.sizeOf233
 v51:=Tryz.zeroValue233
 t53:=Tryz.underlying218
 a53:=Tryz.isAgg218
 z53:=Tryz.sizeOf218
 v53:=Tryz.zeroValue218
 t171:=Tryz.underlying217
 a171:=Tryz.isAgg217
 z171:=Tryz.sizeOf217
 v171:=Tryz.zeroValue217
 t173:=Tryz.underlying221
 a173:=Tryz.isAgg221
 z173:=Tryz.sizeOf221
 v173:=Tryz.zeroValue221
 t212:=Tryz.underlying249
 a212:=Tryz.isAgg249
 z212:=Tryz.sizeOf249
 v212:=Tryz.zeroValue249
 t213:=Tryz.underlying250
 a213:=Tryz.isAgg250
 z213:=Tryz.sizeOf250
 t232:=Tryz.underlying274
 a232:=Tryz.isAgg274
 z232:=Tryz.sizeOf274
 v232:=Tryz.zeroValue274
 t233:=Tryz.underlying275
 a233:=Tryz.isAgg275
 z233:=Tryz.sizeOf275
 v233:=Tryz.zeroValue275
 g17:=by kernel_rfl
 g18:=by kernel_rfl
 g19:=by kernel_rfl
 i0:=by kernel_rfl
 i2:=by kernel_rfl
 i3:=by kernel_rfl
 i4:=by kernel_rfl
 i5:=by kernel_rfl
 i9:=by kernel_rfl
 i20:=by kernel_rfl
 i37:=by kernel_rfl
 i46:=by kernel_rfl
 i51:=by kernel_rfl
 i53:=by kernel_rfl
 i171:=by kernel_rfl
 i173:=by kernel_rfl
 i212:=by kernel_rfl
 i232:=by kernel_rfl
 i233:=by kernel_rfl
 m17:=by kernel_rfl
 m18:=by kernel_rfl
 m19:=by kernel_rfl }
open Go.RowKit Go.Sort Go.Lib in
theorem itoa_lays (n : Int) (h0 : -9223372036854775808 ≤ n) (h1 : n ≤ 9223372036854775807) (w : World) (htab : Lib.TabIs Tryz.prog w "internal/strconv.uint64pow10" .u64 Lib.pow10Tab) :
  Calls Tryz.prog 39 #[.int .i64 n] w fun e w'=>e=.returned (.string ⟨(Lib.itoa n).toArray⟩)∧∃ k os,w'=grow (w.drewN k) os:=Any.strconv_Itoa itoaLays n h0 h1 w htab
end Go.Proofs.YteoilpcbekijlaaGreatDoor
set_option linter.unusedSimpArgs false
set_option linter.unusedVariables false
set_option maxRecDepth 100000
set_option maxHeartbeats 1600000
namespace Go.Proofs.YteoilpcbekijlaaGreatDoor
open Go.RowKit
theorem below_grow' (w:World) (k:Nat) (os:Array Obj):Below w.heap.size w (Sort.grow (w.drewN k) os):=by
 refine⟨rfl,rfl,rfl,by simp[Sort.grow],fun b hb=>?_⟩
 show ((w.drewN k).heap++os)[b]? = w.heap[b]?
 have:(w.drewN k).heap=w.heap:=rfl
 rw[this,Array.getElem?_append_left hb]
def Pows (w : World) : Prop := Lib.TabIs Tryz.prog w "internal/strconv.uint64pow10" .u64 Lib.pow10Tab
theorem Pows.grow {w w' : World}(h:Pows w) (hb:Below w.heap.size w w'):Pows w':=by
 unfold Pows Lib.TabIs World.var? at *
 obtain⟨g,hg,hc⟩:=Option.bind_eq_some_iff.1 h
 refine Option.bind_eq_some_iff.2 ⟨g,hg,?_⟩
 cases hh:w.heap[g]? with
 | none=>rw[hh]at hc;cases hc
 | some o=>rw[hb.block _ (heap_lt hh)];exact hc
def lineV (v:Vl):ByteArray:=if v.kind=1 then ⟨(Lib.itoa v.n).toArray⟩ else if v.kind=2 then (if v.n=1 then ⟨#[116,114,117,101]⟩ else ⟨#[102,97,108,115,101]⟩) else if v.kind=3 then ⟨#[116,104,105,110,103]⟩ else ⟨#[110,117,108,108]⟩
theorem line_any (v:Vl) (w:World) (h0:-9223372036854775808≤v.n) (h1:v.n≤9223372036854775807) (ht:Pows w):
  Calls Tryz.prog 154 #[v.v] w fun e w'=>e=.returned (.string (lineV v))∧Below w.heap.size w w':=by
 have HT:=Lib.hid ht
 clear ht
 obtain⟨k,n⟩:=v
 dsimp only at h0 h1
 have hL:=Loc.start w
 have hcase:k=1∨(k=2∧n=1)∨(k=2∧(n==1)=false)∨k=3∨((k==1)=false∧(k==2)=false∧(k==3)=false):=by simp only[beq_eq_false_iff_ne];omega
 rcases hcase with rfl|⟨rfl,rfl⟩|⟨rfl,hn⟩|rfl|⟨g0,g1,g2⟩
 ·have HI:=Lib.hid (fun w' (hb:Below w.heap.size w w')=>itoa_lays n h0 h1 w' (HT.out.grow hb))
  clear h0 h1
  go_enter Tryz.func154,Tryz.ntmps154
  go_wp2_with (first|(with_reducible first|refine lld hL ?_|((first|refine lbx hL ?_|refine lal hL ?_|refine lbs hL ?_);clear hL;intro bl w1 hL)|(refine lst' hL ?_;clear hL;intro w1 hL))|(go_at_call 39;refine(HI.out _ hL.below).mono ?_;rintro e w3 ⟨rfl,k3,os3,rfl⟩;replace hL:=hL.grow (below_grow' _ k3 os3);dsimp only))
  (try simp only[Exit.inBlock,Exit.then]);refine rt1 ?_
  exact⟨by simp[lineV],hL.below⟩
 all_goals
  clear h0 h1
  go_enter Tryz.func154,Tryz.ntmps154
  go_wp2_with (first|(with_reducible first|refine lld hL ?_|((first|refine lbx hL ?_|refine lal hL ?_|refine lbs hL ?_);clear hL;intro bl w1 hL)|(refine lst' hL ?_;clear hL;intro w1 hL))|go_in)
  (try simp only[Exit.inBlock,Exit.then]);refine rt1 ?_
  first|exact⟨by simp[lineV];rfl,hL.below⟩|exact⟨by simp_all [lineV];rfl,hL.below⟩|exact⟨by simp_all [lineV],hL.below⟩
end Go.Proofs.YteoilpcbekijlaaGreatDoor
set_option linter.unusedSimpArgs false
set_option linter.unusedVariables false
set_option maxRecDepth 100000
set_option maxHeartbeats 4000000
namespace Go.Proofs.YteoilpcbekijlaaGreatDoor
open Go.RowKit
def InputsAt (w:World) (ins:Sl) (xs:Nat→Int):Prop:=ListC w 1 ins.p ins.n (fun k=>[.int .i64 (xs k)])∧ins.n≤9223372036854775807
def inputV (i:Ins) (ins:Sl) (xs:Nat→Int) (s:Rs):Int:=if s.taken<ins.n then max (-i.n) (min i.n (xs s.taken.toNat)) else 0
def takeS (i:Ins) (t:Nat) (ins:Sl) (xs:Nat→Int) (s:Rs):Rs:=Rs.set { s with taken:=wrap64 (s.taken+1) } t ⟨1,inputV i ins xs s⟩
theorem take_any (w0:World) (bm:Nat) (p:Pg) (ins:Sl) (xs:Nat→Int) (s:Rs) (i:Ins) (t:Nat) (w:World) (h:Mach w0 bm p ins s w) (hin:InputsAt w0 ins xs) (hi:i.to=t) (ht:t<s.vars.length) (hn:0≤i.n∧i.n≤1000000) (htk:0≤s.taken∧s.taken≤9223372036854775807) (hat:0≤s.at'∧s.at'≤1000000):
  Calls Tryz.prog 102 #[.pointer (some ⟨bm,0,none⟩),i.v] w fun e w'=>e=.returned (.tuple #[])∧Mach w0 bm p ins (takeS i t ins xs s) w':=by
 obtain⟨r,ts,Rv,Rt,Rl,Rf,hR,hL⟩:=h
 have hR2:RowsR { r with taken:=wrap64 (s.taken+1) } { s with taken:=wrap64 (s.taken+1) } ts Rv Rt Rl Rf:=⟨hR.vars,hR.things,hR.lines,hR.fields,hR.a,rfl,hR.e⟩
 have hrt:=hR.t
 obtain⟨hl,hm⟩:=hin
 obtain⟨b,o,hp,hc⟩:=hl.ex
 have HP:=Lib.hid hp
 have HC:=Lib.hid hc
 have HX:=Lib.hid (And.intro ht hat)
 obtain⟨kind,zt,ia,ib,num,goto⟩:=i
 obtain⟨ra,rv,rg,rk,rl,re⟩:=r
 dsimp only at hi hn hrt hR2
 subst hi
 subst hrt
 have HR:=Lib.hid hR2
 obtain⟨hn0,hn1⟩:=hn
 obtain⟨ht0,ht1⟩:=htk
 clear hR hR2 hp hc ht hat hl
 by_cases hlt:s.taken<ins.n
 ·obtain⟨k,hk⟩:∃ k:Nat,s.taken=k:=⟨s.taken.toNat,by omega⟩
  have hkn:k<ins.n:=by omega
  have HP2:=Lib.hid (HP.out (by omega))
  have HRd:=Lib.hid (show ReadsAt Tryz.prog 3 w0 b (o+k) (.int .i64 (xs k)) by have h:=ReadsAt.cell (P:=Tryz.prog) tInt (HC.out k hkn).1 ((HC.out k hkn).2 0 _ rfl);rw[Nat.mul_one,Nat.add_zero]at h;exact h)
  have HT:=Lib.hid (show takeS ⟨kind,t,ia,ib,num,goto⟩ t ins xs s=Rs.set { s with taken:=wrap64 (s.taken+1) } t ⟨1,max (-num) (min num (xs k))⟩ by
   unfold takeS inputV;rw[if_pos hlt,hk];rfl)
  have HK:=Lib.hid hk
  generalize hs:s.taken=st at hlt hk HT HR hL ht0 ht1 ⊢
  subst hk
  clear HP HC
  go_enter Tryz.func102,Tryz.ntmps102
  go_upto_region 2 with(first|(with_reducible first|refine lld hL ?_|((first|refine lbx hL ?_|refine lal hL ?_|refine lbs hL ?_);clear hL;intro bl w1 hL)|(refine lst' hL ?_;clear hL;intro w1 hL)))
  refine draw_begin [5,6,7,8,9,10,11,12,13,14,15] ?_
  refine dv0 ?_
  refine dv1 0 ?_
  refine dv1 1 ?_
  refine dv1 2 ?_
  refine dv1 3 ?_
  refine dv0 ?_
  refine dv1 5 ?_
  refine dv1 6 ?_
  refine dv1 7 ?_
  refine dv1 8 ?_
  refine dv2 4 9 ?_
  refine dnd hL ?_
  clear hL;intro w2 hL;simp only[fillX,sTa,sTb]
  go_upto_region 3 with(first|(with_reducible first|refine lld hL ?_|((first|refine lbx hL ?_|refine lal hL ?_|refine lbs hL ?_);clear hL;intro bl w1 hL)|(refine lst' hL ?_;clear hL;intro w1 hL)))
  refine draw_begin [16,17,18,19,20,21,22,23,24,25,26,27,28,29,30,31,32,33,4] ?_
  refine dv0 ?_
  refine dv1 0 ?_
  refine dv1 1 ?_
  refine dv0 ?_
  refine dv1 3 ?_
  refine dv0 ?_
  refine dv1 5 ?_
  refine dv1 6 ?_
  refine dv1 7 ?_
  refine dv0 ?_
  refine dv1 9 ?_
  refine dv1 10 ?_
  refine dv1 11 ?_
  refine dv1 12 ?_
  apply draw_val
  ·intro g w hb v;replace hL:=hL.grow hb;have d8:=yv v 8;have d13:=yv v 13;clear v;simp only[fillD,fLa,fLb,sTa,sTb];simp only[d8,d13]
   (simp only[HP2.out];go_wp2)
   exact cY
  simp only[apN,apC]
  apply draw_val
  ·intro g w hb v;replace hL:=hL.grow hb;have d14:=yv v 14;clear v;simp only[fillD,fLa,fLb,sTa,sTb];simp only[d14]
   refine loc_loadB HRd.out hL rfl rfl ?_
   exact cY
  simp only[apN,apC]
  refine dv2 4 15 ?_
  refine dv2 2 16 ?_
  refine dv1 17 ?_
  refine dnd hL ?_
  clear hL;intro w3 hL;simp only[fillX,sTa,sTb]
  have hw1:wrap64 ((k:Int)+1)=k+1:=Go.IntWalk.wrap64_in _ (by omega)
  rw[hw1]at HR HT
  clear hw1
  go_wp2_with (first|(with_reducible first|refine lld hL ?_|((first|refine lbx hL ?_|refine lal hL ?_|refine lbs hL ?_);clear hL;intro bl w1 hL)|(refine lst' hL ?_;clear hL;intro w1 hL))|(go_at_call 96;refine(set_any w0 bm p ins _ t ⟨_,_⟩ _ ⟨_,_,Rv,Rt,Rl,_,HR.out,hL.drop (List.sublist_cons_self _ _) (fun _ h=>h)⟩ HX.out.1 HX.out.2).mono ?_;rintro e w3 ⟨rfl,hM⟩;dsimp only))
  (try simp only[Exit.inBlock,Exit.then]);(first|refine end0 rfl rfl ?_|refine ret0 rfl rfl ?_)
  exact⟨rfl,by rw[HT.out];exact hM⟩
 ·have HT:=Lib.hid (show takeS ⟨kind,t,ia,ib,num,goto⟩ t ins xs s=Rs.set { s with taken:=wrap64 (s.taken+1) } t ⟨1,0⟩ by
   unfold takeS inputV;rw[if_neg hlt])
  generalize hs:s.taken=st at hlt HT HR hL ht0 ht1 ⊢
  clear HP HC
  replace hlt:(ins.n:Int)≤st:=by omega
  go_enter Tryz.func102,Tryz.ntmps102
  go_upto_region 2 with(first|(with_reducible first|refine lld hL ?_|((first|refine lbx hL ?_|refine lal hL ?_|refine lbs hL ?_);clear hL;intro bl w1 hL)|(refine lst' hL ?_;clear hL;intro w1 hL)))
  refine draw_begin [5,6,7,8,9,10,11,12,13,14,15] ?_
  refine dv0 ?_
  refine dv1 0 ?_
  refine dv1 1 ?_
  refine dv1 2 ?_
  refine dv1 3 ?_
  refine dv0 ?_
  refine dv1 5 ?_
  refine dv1 6 ?_
  refine dv1 7 ?_
  refine dv1 8 ?_
  refine dv2 4 9 ?_
  refine dnd hL ?_
  clear hL;intro w2 hL;simp only[fillX,sTa,sTb]
  go_wp2_with (first|(with_reducible first|refine lld hL ?_|((first|refine lbx hL ?_|refine lal hL ?_|refine lbs hL ?_);clear hL;intro bl w1 hL)|(refine lst' hL ?_;clear hL;intro w1 hL))|(go_at_call 96;refine(set_any w0 bm p ins _ t ⟨_,_⟩ _ ⟨_,_,Rv,Rt,Rl,_,HR.out,hL.drop (List.sublist_cons_self _ _) (fun _ h=>h)⟩ HX.out.1 HX.out.2).mono ?_;rintro e w3 ⟨rfl,hM⟩;dsimp only))
  (try simp only[Exit.inBlock,Exit.then]);(first|refine end0 rfl rfl ?_|refine ret0 rfl rfl ?_)
  exact⟨rfl,by rw[HT.out];exact hM⟩
end Go.Proofs.YteoilpcbekijlaaGreatDoor
