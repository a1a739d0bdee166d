/- Closed facts for alarmBegun: its small programs' pictures and alarms. Conditions: none. | The walk over the law's alarmBegun. Conditions: the library's variables. -/
import Derived.Test.YtplcndmdkabmeaaGreatDoorAlmS
import Derived.Test.YtplcndmdkabmeaaGreatDoorSolI
import Derived.Test.YtplcndmdkabmeaaGreatDoorParse
import Derived.Test.YtplcndmdkabmeaaGreatDoorRepS
set_option linter.unusedSimpArgs false
set_option linter.unusedVariables false
set_option maxRecDepth 100000
namespace Go.Proofs.YtplcndmdkabmeaaGreatDoor
open Go.RowKit
def V3:List Ins:=[⟨5,0,0,0,0,0⟩,⟨18,0,0,0,0,0⟩]
def zgU:Byt:=[118,97,114,115,32,49,32,102,105,101,108,100,115,32,48,10,101,120,112,101,99,116,32,48,10]
def K2:List Ins:=[⟨17,0,0,0,0,0⟩]
theorem zfG:ZO (qA V3) 2 (zB 1 0 2) 0=false:=by kernel_rfl
theorem zeJ:yG (qA V3) 2 (zB 1 0 2) 0:=⟨zfG,fun j hj=>absurd hj (Nat.not_lt_zero j)⟩
theorem zbL:jP (qA V3) (qZ (qA V3) 2 (zB 1 0 2) 1) 2=[(0,1),(1,3)]:=by kernel_rfl
theorem zdq:yh 1 0 V3=0:=by kernel_rfl
theorem zfH:ZO (qA K2) 1 (zB 1 0 1) 0=false:=by kernel_rfl
theorem zeK:yG (qA K2) 1 (zB 1 0 1) 0:=⟨zfH,fun j hj=>absurd hj (Nat.not_lt_zero j)⟩
theorem zbM:jP (qA K2) (qZ (qA K2) 1 (zB 1 0 1) 1) 1=[(0,2)]:=by kernel_rfl
theorem zdr:yh 1 0 K2=0:=by kernel_rfl
theorem zeL:qT zgU=(some ((1,0),K2),0,0):=by kernel_rfl
theorem Gm:jP yB (qZ yB 2 (zB 1 0 2) 2) 2=[]:=by kernel_rfl
theorem zbN:Vt (jP yB (qZ yB 2 (zB 1 0 2) 2) 2)=true:=by rw[Gm];rfl
set_option maxHeartbeats 1600000
abbrev zhe:List Value:=[.int .i64 5,.int .i64 0,.int .i64 0,.int .i64 0,.int .i64 0,.int .i64 0,.int .i64 18,.int .i64 0,.int .i64 0,.int .i64 0,.int .i64 0,.int .i64 0]
abbrev zgV (b:Nat):Pg:=⟨1,0,some ⟨b,0,none⟩,2,2⟩
theorem zeM {w:World}{b:Nat}(h:w.heap[b]? = some (.cells zhe.toArray 86 (0,0))):qc w (zgV b) (qA V3):=by
 refine⟨b,0,fun _=>rfl,fun k hk=>⟨zL h,fun j v hj=>?_⟩⟩
 have hk2:k<2:=hk
 rcases (show k=0∨k=1 by omega) with rfl|rfl
 ·have hj6:j<6:=by have:=(List.getElem?_eq_some_iff.1 hj).1;simpa using this
  rcases (show j=0∨j=1∨j=2∨j=3∨j=4∨j=5 by omega) with rfl|rfl|rfl|rfl|rfl|rfl<;>(simp[World.cell?,h];simpa [qA,V3] using hj)
 ·have hj6:j<6:=by have:=(List.getElem?_eq_some_iff.1 hj).1;simpa using this
  rcases (show j=0∨j=1∨j=2∨j=3∨j=4∨j=5 by omega) with rfl|rfl|rfl|rfl|rfl|rfl<;>(simp[World.cell?,h];simpa [qA,V3] using hj)
theorem Gn {t:Byt}(h:Jo 1 0 K2 t):t=[48,32,102,97,105,108,101,100,10]:=by
 obtain⟨nv,nf,k,hv,hf,hE,rfl⟩:=h
 obtain rfl:nv=1:=by omega
 obtain rfl:nf=0:=by omega
 obtain rfl:=hE.one (show yG (qA K2) K2.length (zB 1 0 K2.length) 0 from zeK)
 show yH (jP (qA K2) (qZ (qA K2) 1 (zB 1 0 1) 1) 1)=_
 rw[zbM]
 kernel_rfl
theorem JA (w:World) (hg:yI w):
  Calls Tryz.prog 9 #[] w fun e w'=>e=.returned (.bool true)∧Below w.heap.size w w':=by
 have HG:=Lib.hid hg
 have HRT:=Lib.hid (show ∀ w',yI w'→Calls Tryz.prog 7 #[.string ⟨#[118,97,114,115,32,49,32,102,105,101,108,100,115,32,48,10,101,120,112,101,99,116,32,48,10]⟩] w' fun e w''=>e=.returned (.tuple #[.string ⟨#[48,32,102,97,105,108,101,100,10]⟩,.int .i64 0])∧Below w'.heap.size w' w'' from fun w' hg'=>by
  refine(Ug ⟨zgU.toArray⟩ 1 0 K2 w' hg' (by decide) zeL zdr).mono ?_
  rintro e w'' ⟨t,rfl,hR,hb⟩
  obtain rfl:=Gn hR
  exact⟨rfl,hb⟩)
 have HSU:=Lib.hid (show ∀ (bs:Nat) w',w'.heap[bs]? = some (.cells UT.toArray 86 (0,0))→Calls Tryz.prog 14 #[(Zm bs).v] w' fun e w''=>e=.returned (.tuple #[.bool true,.int .i64 0])∧Below w'.heap.size w' w'' from fun bs w' h=>by
  refine(zc9 (Zm bs) yB 1 0 rfl rfl w' (show (2:Nat)≤9223372036854775807 by decide) (zaT h) (GB bs)).mono ?_
  rintro e w'' ⟨k,rfl,hE,hb⟩
  obtain rfl:=hE.one (show yG yB 2 (zB 1 0 2) 1 from zbW)
  exact⟨by rw[show Vt (jP yB (qZ yB (Zm bs).n (zB 1 0 (Zm bs).n) (1+1)) (Zm bs).n)=true from zbN],hb⟩)
 clear hg
 have hL:=Loc.start w
 go_enter Tryz.func9,Tryz.ntmps9
 go_upto_region 3 with(first|(go_at_call 13;refine(Uk (zgV _) (qA V3) 1 0 rfl rfl _ (show (2:Nat)≤9223372036854775807 by decide) (zeM (hL.heap cIn)) zdq).mono ?_;rintro e w1 ⟨k,⟨sp,sn,sc⟩,rfl,hE,hA,hb⟩;obtain rfl:=hE.one (show yG (qA V3) 2 (zB 1 0 2) 0 from zeJ);replace hL:=hL.grow hb;have HB:=Lib.hid hL.below;have HA:=Lib.hid (show JB w1 ⟨sp,sn,sc⟩ [(0,1),(1,3)] from zbL▸hA);have HG1:=Lib.hid (HG.out.grow hL.below);clear hb hE hA hL HG;have hL:=Loc.start w1;dsimp only[Sl.v])|(with_reducible first|refine lld hL ?_|((first|refine lal hL ?_|refine lbs hL ?_);clear hL;intro bl w1 hL)|(refine zd hL ?_;clear hL;intro w1 hL)))
 have hn:=HA.out.n
 obtain⟨b3,o3,hp3,hr3⟩:=HA.out.reads1
 dsimp only at hn hp3 hr3
 obtain rfl:sn=2:=hn
 obtain rfl:=hp3 (by decide)
 have H0:=Lib.hid (show zg Tryz.prog 35 w1 b3 o3 (.agg #[.int .i64 0,.int .i64 1]) from by simpa using hr3 0 (by decide))
 have H1:=Lib.hid (show zg Tryz.prog 35 w1 b3 (o3+2) (.agg #[.int .i64 1,.int .i64 3]) from by simpa using hr3 1 (by decide))
 clear hp3 hr3 HA
 obtain⟨wq,hwq⟩:∃ x,x=w1:=⟨_,rfl⟩
 subst hwq
 go_upto_region 5 with(first|(go_at_call 39;refine(zcB _).mono ?_;rintro e w3 ⟨bs,rfl,hge,hsm,hb3⟩;replace hL:=hL.gain hb3 hge hsm;clear hge hsm hb3;(try dsimp only))|(go_at_call 14;refine(HSU.out _ _ (hL.heap cIn)).mono ?_;rintro e w1 ⟨rfl,hb⟩;replace hL:=hL.grow hb;clear hb;dsimp only)|(go_at_call 7;refine(HRT.out _ (HG1.out.grow hL.below)).mono ?_;rintro e w1 ⟨rfl,hb⟩;replace hL:=hL.grow hb;clear hb;dsimp only))
 go_wp2_with (first|(with_reducible refine ldB H0.out hL ?_)|(with_reducible refine ldB H1.out hL ?_))
 refine rt1 ?_
 exact⟨rfl,HB.out.trans (hL.below.mono HB.out.size)⟩
end Go.Proofs.YtplcndmdkabmeaaGreatDoor
