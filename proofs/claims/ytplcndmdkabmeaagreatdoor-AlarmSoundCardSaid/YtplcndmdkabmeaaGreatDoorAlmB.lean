/-  -/
import Derived.Test.YtplcndmdkabmeaaGreatDoorAlmS
import Derived.Test.YtplcndmdkabmeaaGreatDoorSolI
import Derived.Test.YtplcndmdkabmeaaGreatDoorParse
import Derived.Test.YtplcndmdkabmeaaGreatDoorRepS
set_option linter.unusedSimpArgs false
set_option linter.unusedVariables false
set_option maxRecDepth 100000
namespace Go.Proofs.YtplcndmdkabmeaaGreatDoor
open Go.RowKit
def begL:List Ins:=[⟨5,0,0,0,0,0⟩,⟨18,0,0,0,0,0⟩]
def repT:Byt:=[118,97,114,115,32,49,32,102,105,101,108,100,115,32,48,10,101,120,112,101,99,116,32,48,10]
def repL:List Ins:=[⟨17,0,0,0,0,0⟩]
theorem beg_chg:chgN (insAt begL) 2 (beginL 1 0 2) 0=false:=by kernel_rfl
theorem beg_ends:EndsN (insAt begL) 2 (beginL 1 0 2) 0:=⟨beg_chg,fun j hj=>absurd hj (Nat.not_lt_zero j)⟩
theorem beg_alarms:almUp (insAt begL) (solN (insAt begL) 2 (beginL 1 0 2) 1) 2=[(0,1),(1,3)]:=by kernel_rfl
theorem beg_right:checkL 1 0 begL=0:=by kernel_rfl
theorem rep_chg:chgN (insAt repL) 1 (beginL 1 0 1) 0=false:=by kernel_rfl
theorem rep_ends:EndsN (insAt repL) 1 (beginL 1 0 1) 0:=⟨rep_chg,fun j hj=>absurd hj (Nat.not_lt_zero j)⟩
theorem rep_alarms:almUp (insAt repL) (solN (insAt repL) 1 (beginL 1 0 1) 1) 1=[(0,2)]:=by kernel_rfl
theorem rep_right:checkL 1 0 repL=0:=by kernel_rfl
theorem rep_prog:progD repT=(some ((1,0),repL),0,0):=by kernel_rfl
theorem small_alarms:almUp smallIs (solN smallIs 2 (beginL 1 0 2) 2) 2=[]:=by kernel_rfl
theorem small_sure:sureA (almUp smallIs (solN smallIs 2 (beginL 1 0 2) 2) 2)=true:=by rw[small_alarms];rfl
end Go.Proofs.YtplcndmdkabmeaaGreatDoor
set_option linter.unusedSimpArgs false
set_option linter.unusedVariables false
set_option maxRecDepth 100000
set_option maxHeartbeats 1600000
namespace Go.Proofs.YtplcndmdkabmeaaGreatDoor
open Go.RowKit
abbrev begC:List Value:=[.int .i64 5,.int .i64 0,.int .i64 0,.int .i64 0,.int .i64 0,.int .i64 0,.int .i64 18,.int .i64 0,.int .i64 0,.int .i64 0,.int .i64 0,.int .i64 0]
abbrev begP (b:Nat):Pg:=⟨1,0,some ⟨b,0,none⟩,2,2⟩
theorem beg_code {w:World}{b:Nat}(h:w.heap[b]? = some (.cells begC.toArray 86 (0,0))):CodeAt w (begP b) (insAt begL):=by
 refine⟨b,0,fun _=>rfl,fun k hk=>⟨heap_lt h,fun j v hj=>?_⟩⟩
 have hk2:k<2:=hk
 rcases (show k=0∨k=1 by omega) with rfl|rfl
 ·have hj6:j<6:=by have:=(List.getElem?_eq_some_iff.1 hj).1;simpa using this
  rcases (show j=0∨j=1∨j=2∨j=3∨j=4∨j=5 by omega) with rfl|rfl|rfl|rfl|rfl|rfl<;>(simp[World.cell?,h];simpa [insAt,begL] using hj)
 ·have hj6:j<6:=by have:=(List.getElem?_eq_some_iff.1 hj).1;simpa using this
  rcases (show j=0∨j=1∨j=2∨j=3∨j=4∨j=5 by omega) with rfl|rfl|rfl|rfl|rfl|rfl<;>(simp[World.cell?,h];simpa [insAt,begL] using hj)
theorem rep_reported {t:Byt}(h:Reported 1 0 repL t):t=[48,32,102,97,105,108,101,100,10]:=by
 obtain⟨nv,nf,k,hv,hf,hE,rfl⟩:=h
 obtain rfl:nv=1:=by omega
 obtain rfl:nf=0:=by omega
 obtain rfl:=hE.one (show EndsN (insAt repL) repL.length (beginL 1 0 repL.length) 0 from rep_ends)
 show textA (almUp (insAt repL) (solN (insAt repL) 1 (beginL 1 0 1) 1) 1)=_
 rw[rep_alarms]
 kernel_rfl
theorem alarmBegun_any (w:World) (hg:Glob w):
  Calls Tryz.prog 9 #[] w fun e w'=>e=.returned (.bool true)∧Below w.heap.size w w':=by
 have HG:=Lib.hid hg
 have HRT:=Lib.hid (show ∀ w',Glob w'→Calls Tryz.prog 7 #[.string ⟨#[118,97,114,115,32,49,32,102,105,101,108,100,115,32,48,10,101,120,112,101,99,116,32,48,10]⟩] w' fun e w''=>e=.returned (.tuple #[.string ⟨#[48,32,102,97,105,108,101,100,10]⟩,.int .i64 0])∧Below w'.heap.size w' w'' from fun w' hg'=>by
  refine(report_good ⟨repT.toArray⟩ 1 0 repL w' hg' (by decide) rep_prog rep_right).mono ?_
  rintro e w'' ⟨t,rfl,hR,hb⟩
  obtain rfl:=rep_reported hR
  exact⟨rfl,hb⟩)
 have HSU:=Lib.hid (show ∀ (bs:Nat) w',w'.heap[bs]? = some (.cells smallC.toArray 86 (0,0))→Calls Tryz.prog 14 #[(smallP bs).v] w' fun e w''=>e=.returned (.tuple #[.bool true,.int .i64 0])∧Below w'.heap.size w' w'' from fun bs w' h=>by
  refine(sure_good (smallP bs) smallIs 1 0 rfl rfl w' (show (2:Nat)≤9223372036854775807 by decide) (small_code h) (small_right bs)).mono ?_
  rintro e w'' ⟨k,rfl,hE,hb⟩
  obtain rfl:=hE.one (show EndsN smallIs 2 (beginL 1 0 2) 1 from small_ends)
  exact⟨by rw[show sureA (almUp smallIs (solN smallIs (smallP bs).n (beginL 1 0 (smallP bs).n) (1+1)) (smallP bs).n)=true from small_sure],hb⟩)
 clear hg
 have hL:=Loc.start w
 go_enter Tryz.func9,Tryz.ntmps9
 go_upto_region 3 with(first|(go_at_call 13;refine(alarms_good (begP _) (insAt begL) 1 0 rfl rfl _ (show (2:Nat)≤9223372036854775807 by decide) (beg_code (hL.heap cIn)) beg_right).mono ?_;rintro e w1 ⟨k,⟨sp,sn,sc⟩,rfl,hE,hA,hb⟩;obtain rfl:=hE.one (show EndsN (insAt begL) 2 (beginL 1 0 2) 0 from beg_ends);replace hL:=hL.grow hb;have HB:=Lib.hid hL.below;have HA:=Lib.hid (show AlmAt w1 ⟨sp,sn,sc⟩ [(0,1),(1,3)] from beg_alarms▸hA);have HG1:=Lib.hid (HG.out.grow hL.below);clear hb hE hA hL HG;have hL:=Loc.start w1;dsimp only[Sl.v])|(with_reducible first|refine lld hL ?_|((first|refine lbx hL ?_|refine lal hL ?_|refine lbs hL ?_);clear hL;intro bl w1 hL)|(refine lst' hL ?_;clear hL;intro w1 hL)))
 have hn:=HA.out.n
 obtain⟨b3,o3,hp3,hr3⟩:=HA.out.reads1
 dsimp only at hn hp3 hr3
 obtain rfl:sn=2:=hn
 obtain rfl:=hp3 (by decide)
 have H0:=Lib.hid (show ReadsAt Tryz.prog 35 w1 b3 o3 (.agg #[.int .i64 0,.int .i64 1]) from by simpa using hr3 0 (by decide))
 have H1:=Lib.hid (show ReadsAt Tryz.prog 35 w1 b3 (o3+2) (.agg #[.int .i64 1,.int .i64 3]) from by simpa using hr3 1 (by decide))
 clear hp3 hr3 HA
 obtain⟨wq,hwq⟩:∃ x,x=w1:=⟨_,rfl⟩
 subst hwq
 go_upto_region 5 with(first|(go_at_call 39;refine(small_any _).mono ?_;rintro e w3 ⟨bs,rfl,hge,hsm,hb3⟩;replace hL:=hL.gain hb3 hge hsm;clear hge hsm hb3;(try dsimp only))|(go_at_call 14;refine(HSU.out _ _ (hL.heap cIn)).mono ?_;rintro e w1 ⟨rfl,hb⟩;replace hL:=hL.grow hb;clear hb;dsimp only)|(go_at_call 7;refine(HRT.out _ (HG1.out.grow hL.below)).mono ?_;rintro e w1 ⟨rfl,hb⟩;replace hL:=hL.grow hb;clear hb;dsimp only)|(with_reducible first|refine lld hL ?_|((first|refine lbx hL ?_|refine lal hL ?_|refine lbs hL ?_);clear hL;intro bl w1 hL)|(refine lst' hL ?_;clear hL;intro w1 hL)))
 go_wp2_with (first|(with_reducible refine ldB H0.out hL ?_)|(with_reducible refine ldB H1.out hL ?_)|(with_reducible first|refine lld hL ?_|((first|refine lbx hL ?_|refine lal hL ?_|refine lbs hL ?_);clear hL;intro bl w1 hL)|(refine lst' hL ?_;clear hL;intro w1 hL)))
 (try simp only[Exit.inBlock,Exit.then]);refine rt1 ?_
 exact⟨rfl,HB.out.trans (hL.below.mono HB.out.size)⟩
end Go.Proofs.YtplcndmdkabmeaaGreatDoor
