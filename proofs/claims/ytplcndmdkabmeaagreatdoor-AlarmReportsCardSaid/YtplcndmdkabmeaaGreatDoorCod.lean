/- The sizes of the types that the walks meet. Conditions: none. | The types' sizes. Conditions: none. | Plain definitions: programs, and when they are right. Conditions: none. | The walks over the reference's functions on programs. Conditions: the program's numbers are small. | The walks over the reference's functions on programs: the word of a kind, one instruction. Conditions: the program's numbers are small. | The walks over the package code: letters, and the table of kinds. Conditions: the program's numbers are small. | Slices in memory: elements, lists of ints; tests over the first n. Over any program. Conditions: none. | Slices of elements in a call's own memory: elements are read and stored. Over any program. Conditions: none. -/
import Derived.Test.YtplcndmdkabmeaaGreatDoorLib
import Derived.Deep.Cut
set_option linter.unusedSimpArgs false
set_option linter.unusedVariables false
set_option maxRecDepth 100000
set_option maxHeartbeats 4000000
namespace Go.Proofs.YtplcndmdkabmeaaGreatDoor
open Go.RowKit
theorem QQ:yg Tryz.prog 3:=⟨by kernel_rfl,by kernel_rfl⟩
theorem Zh:yg Tryz.prog 4:=⟨by kernel_rfl,by kernel_rfl⟩
theorem VG:yg Tryz.prog 22:=⟨by kernel_rfl,by kernel_rfl⟩
theorem j0:yg Tryz.prog 9:=⟨by kernel_rfl,by kernel_rfl⟩
theorem JW:yg Tryz.prog 25:=⟨by kernel_rfl,by kernel_rfl⟩
theorem VH:Yx Tryz.prog 27 3:=⟨by kernel_rfl,by kernel_rfl⟩
theorem jE:Yx Tryz.prog 86 6:=⟨by kernel_rfl,by kernel_rfl⟩
theorem VI:Yx Tryz.prog 162 2:=⟨by kernel_rfl,by kernel_rfl⟩
theorem zgm:Qb Tryz.prog 86 [.int .i64 0,.int .i64 0,.int .i64 0,.int .i64 0,.int .i64 0,.int .i64 0]:=⟨by kernel_rfl⟩
theorem zgn:Qb Tryz.prog 162 [.string ⟨#[]⟩,.string ⟨#[]⟩]:=⟨by kernel_rfl⟩
theorem zgO:Qb Tryz.prog 27 [.int .i64 0,.int .i64 0,.slice none 0 0]:=⟨by kernel_rfl⟩
theorem zeE:jH Tryz.prog 44 9 [.string ⟨#[]⟩]:=⟨by kernel_rfl,⟨by kernel_rfl⟩,⟨by kernel_rfl⟩⟩
theorem Ys:jH Tryz.prog 25 86 [.int .i64 0,.int .i64 0,.int .i64 0,.int .i64 0,.int .i64 0,.int .i64 0]:=⟨by kernel_rfl,⟨by kernel_rfl⟩,⟨by kernel_rfl⟩⟩
theorem zay:Yx Tryz.prog 106 3:=⟨by kernel_rfl,by kernel_rfl⟩
theorem zgP:Qb Tryz.prog 106 [.bool false,.int .i64 0,.int .i64 0]:=⟨by kernel_rfl⟩
theorem Qr:jH Tryz.prog 37 3 [.int .i64 0]:=⟨by kernel_rfl,⟨by kernel_rfl⟩,⟨by kernel_rfl⟩⟩
theorem Z7:yg Tryz.prog 37:=⟨by kernel_rfl,by kernel_rfl⟩
theorem Z8:Qx Tryz.prog 3 8:=⟨by kernel_rfl⟩
theorem zgQ:Qx Tryz.prog 9 16:=⟨by kernel_rfl⟩
theorem zaz:yg Tryz.prog 44:=⟨by kernel_rfl,by kernel_rfl⟩
theorem KD:yg Tryz.prog 42:=⟨by kernel_rfl,by kernel_rfl⟩
theorem KE:yg Tryz.prog 43:=⟨by kernel_rfl,by kernel_rfl⟩
theorem VJ:Yx Tryz.prog 77 2:=⟨by kernel_rfl,by kernel_rfl⟩
theorem VK:Yx Tryz.prog 79 2:=⟨by kernel_rfl,by kernel_rfl⟩
theorem zeF:Yx Tryz.prog 46 6:=⟨by kernel_rfl,by kernel_rfl⟩
theorem zgo:Qb Tryz.prog 77 [.int .i64 0,.int .i64 0]:=⟨by kernel_rfl⟩
theorem zgp:Qb Tryz.prog 79 [.int .i64 0,.slice none 0 0]:=⟨by kernel_rfl⟩
theorem zhc:Qb Tryz.prog 46 [.int .i64 0,.slice none 0 0,.slice none 0 0,.int .i64 0,.slice none 0 0,.int .i64 0]:=⟨by kernel_rfl⟩
theorem zZ:Yx Tryz.prog 108 7:=⟨by kernel_rfl,by kernel_rfl⟩
theorem zgq:Qb Tryz.prog 108 [.bool false,.bool false,.int .i64 0,.int .i64 0,.bool false,.bool false,.slice none 0 0]:=⟨by kernel_rfl⟩
theorem Z9:Qx Tryz.prog 108 64:=⟨by kernel_rfl⟩
theorem yA:yg Tryz.prog 51:=⟨by kernel_rfl,by kernel_rfl⟩
theorem jO:jH Tryz.prog 51 108 [.bool false,.bool false,.int .i64 0,.int .i64 0,.bool false,.bool false,.slice none 0 0]:=⟨by kernel_rfl,⟨by kernel_rfl⟩,⟨by kernel_rfl⟩⟩
theorem zgr:jH Tryz.prog 124 4 [.bool false]:=⟨by kernel_rfl,⟨by kernel_rfl⟩,⟨by kernel_rfl⟩⟩
theorem VL:yg Tryz.prog 124:=⟨by kernel_rfl,by kernel_rfl⟩
theorem zaA:yg Tryz.prog 52:=⟨by kernel_rfl,by kernel_rfl⟩
theorem XJ:jH Tryz.prog 52 51 [.slice none 0 0]:=⟨by kernel_rfl,⟨by kernel_rfl⟩,⟨by kernel_rfl⟩⟩
theorem zeG:Qx Tryz.prog 51 24:=⟨by kernel_rfl⟩
theorem ZK:Yx Tryz.prog 54 3:=⟨by kernel_rfl,by kernel_rfl⟩
theorem zhd:Qb Tryz.prog 54 [.bool false,.slice none 0 0,.slice none 0 0]:=⟨by kernel_rfl⟩
theorem XK:yg Tryz.prog 58:=⟨by kernel_rfl,by kernel_rfl⟩
theorem Ut:jH Tryz.prog 58 54 [.bool false,.slice none 0 0,.slice none 0 0]:=⟨by kernel_rfl,⟨by kernel_rfl⟩,⟨by kernel_rfl⟩⟩
theorem XL:Yx Tryz.prog 75 4:=⟨by kernel_rfl,by kernel_rfl⟩
theorem zgR:Qb Tryz.prog 75 [.int .i64 0,.bool false,.slice none 0 0,.slice none 0 0]:=⟨by kernel_rfl⟩
theorem zcn:Qx Tryz.prog 75 64:=⟨by kernel_rfl⟩
theorem VM:yg Tryz.prog 63:=⟨by kernel_rfl,by kernel_rfl⟩
theorem VN:jH Tryz.prog 63 75 [.int .i64 0,.bool false,.slice none 0 0,.slice none 0 0]:=⟨by kernel_rfl,⟨by kernel_rfl⟩,⟨by kernel_rfl⟩⟩
theorem Y6:Yx Tryz.prog 35 2:=⟨by kernel_rfl,by kernel_rfl⟩
theorem zgs:Qb Tryz.prog 35 [.int .i64 0,.int .i64 0]:=⟨by kernel_rfl⟩
theorem J0:Qx Tryz.prog 35 16:=⟨by kernel_rfl⟩
theorem KF:yg Tryz.prog 32:=⟨by kernel_rfl,by kernel_rfl⟩
theorem Qs:jH Tryz.prog 32 35 [.int .i64 0,.int .i64 0]:=⟨by kernel_rfl,⟨by kernel_rfl⟩,⟨by kernel_rfl⟩⟩
structure Ins where
 kind:Int
 to:Int
 a:Int
 b:Int
 n:Int
 goto:Int
abbrev Ins.cells (i:Ins):List Value:=[.int .i64 i.kind,.int .i64 i.to,.int .i64 i.a,.int .i64 i.b,.int .i64 i.n,.int .i64 i.goto]
abbrev Ins.v (i:Ins):Value:=.agg #[.int .i64 i.kind,.int .i64 i.to,.int .i64 i.a,.int .i64 i.b,.int .i64 i.n,.int .i64 i.goto]
structure Pg where
 vars:Int
 fields:Int
 pc:Option Addr
 n:Nat
 cap:Nat
abbrev Pg.v (p:Pg):Value:=.agg #[.int .i64 p.vars,.int .i64 p.fields,.slice p.pc p.n p.cap]
def z6 (n a b:Int):Bool:=decide (a≤n)&&decide (n≤b)
def nTo (k:Int):Bool:=z6 k 1 12 || k==14
def nA (k:Int):Bool:=z6 k 4 10 || k==12 || k==13 || k==15 || k==17 || k==18
def nB (k:Int):Bool:=z6 k 5 9 || k==13
def nN (k:Int):Bool:=k==1 || k==2 || z6 k 12 14
def QR (k:Int):Bool:=k==15 || k==16
def YR (p:Pg) (i:Ins):Bool:=nTo i.kind && !z6 i.to 0 (p.vars - 1) || nA i.kind && !z6 i.a 0 (p.vars - 1) || nB i.kind && !z6 i.b 0 (p.vars - 1) || (i.kind==12 || i.kind==13) && !z6 i.n 0 (p.fields - 1) || QR i.kind && !z6 i.goto 0 p.n
def J1 (i:Ins):Bool:=i.kind==1 && !z6 i.n (-2147483648) 2147483647 || i.kind==2 && !z6 i.n 0 1 || i.kind==14 && !z6 i.n 0 1000000
def j5 (i:Ins):Bool:=!nTo i.kind&&i.to != 0 || !nA i.kind&&i.a != 0 || !nB i.kind&&i.b != 0 || !nN i.kind&&i.n != 0 || !QR i.kind&&i.goto != 0
def zY (p:Pg) (i:Ins):Int:=if !z6 i.kind 1 19 then 6 else if YR p i then 5 else if J1 i then 3 else if j5 i then 1 else 0
theorem qp (n a b:Int) (w:World):
  Calls Tryz.prog 54 #[.int .i64 n,.int .i64 a,.int .i64 b] w fun e w'=>e=.returned (.bool (z6 n a b))∧w=w':=by
 by_cases h1:a≤n
 all_goals
  go_enter Tryz.func54,Tryz.ntmps54
  go_wp2
  go_ret
  exact⟨by simp[z6];omega,rfl⟩
theorem Ja (k:Int) (w:World):
  Calls Tryz.prog 73 #[.int .i64 k] w fun e w'=>e=.returned (.bool (nTo k))∧Below w.heap.size w w':=by
 have hL:=Loc.start w
 go_enter Tryz.func73,Tryz.ntmps73
 go_upto_region 1 with(fail)
 refine zJ [3,4,5,6,7,8,2] ?_
 refine dv0 ?_
 apply zb
 ·intro g w hb y;replace hL:=hL.grow hb;have d0:=yv y 0;clear y;simp only[za,fLa,fLb,sTa,sTb];simp only[d0]
  go_wp2_with (go_at_call 54;refine(qp _ _ _ _).mono ?_;rintro e w' ⟨rfl,rfl⟩;dsimp only)
  exact⟨rfl,_,rfl,Below.refl _ _,rfl⟩
 simp only[apN,apC]
 refine dv1 1 ?_
 refine dg0 2 ?_
 refine dg1 2 3 ?_
 refine dpo 2 4 ?_
 refine dv1 5 ?_
 refine dns hL ?_
 clear hL;intro w2 hL;simp only[zV,sTa,sTb]
 go_wp2
 (try simp only[Exit.inBlock,Exit.then]);refine rt1 ?_
 exact⟨by rfl,hL.below⟩
theorem qe (k:Int) (w:World):
  Calls Tryz.prog 74 #[.int .i64 k] w fun e w'=>e=.returned (.bool (nA k))∧Below w.heap.size w w':=by
 have hL:=Loc.start w
 go_enter Tryz.func74,Tryz.ntmps74
 go_upto_region 1 with(fail)
 refine zJ [3,4,5,6,7,8,9,10,11,12,13,14,15,16,17,18,19,20,21,22,23,24,2] ?_
 refine dv0 ?_
 apply zb
 ·intro g w hb y;replace hL:=hL.grow hb;have d0:=yv y 0;clear y;simp only[za,fLa,fLb,sTa,sTb];simp only[d0]
  go_wp2_with (go_at_call 54;refine(qp _ _ _ _).mono ?_;rintro e w' ⟨rfl,rfl⟩;dsimp only)
  exact⟨rfl,_,rfl,Below.refl _ _,rfl⟩
 simp only[apN,apC]
 refine dv1 1 ?_
 refine dg0 2 ?_
 refine dg1 2 3 ?_
 refine dpo 2 4 ?_
 refine dv1 5 ?_
 refine dg0 6 ?_
 refine dg1 6 7 ?_
 refine dpo 6 8 ?_
 refine dv1 9 ?_
 refine dg0 10 ?_
 refine dg1 10 11 ?_
 refine dpo 10 12 ?_
 refine dv1 13 ?_
 refine dg0 14 ?_
 refine dg1 14 15 ?_
 refine dpo 14 16 ?_
 refine dv1 17 ?_
 refine dg0 18 ?_
 refine dg1 18 19 ?_
 refine dpo 18 20 ?_
 refine dv1 21 ?_
 refine dns hL ?_
 clear hL;intro w2 hL;simp only[zV,sTa,sTb]
 go_wp2
 (try simp only[Exit.inBlock,Exit.then]);refine rt1 ?_
 exact⟨by rfl,hL.below⟩
theorem qg (k:Int) (w:World):
  Calls Tryz.prog 75 #[.int .i64 k] w fun e w'=>e=.returned (.bool (nB k))∧Below w.heap.size w w':=by
 have hL:=Loc.start w
 go_enter Tryz.func75,Tryz.ntmps75
 go_upto_region 1 with(fail)
 refine zJ [3,4,5,6,7,8,2] ?_
 refine dv0 ?_
 apply zb
 ·intro g w hb y;replace hL:=hL.grow hb;have d0:=yv y 0;clear y;simp only[za,fLa,fLb,sTa,sTb];simp only[d0]
  go_wp2_with (go_at_call 54;refine(qp _ _ _ _).mono ?_;rintro e w' ⟨rfl,rfl⟩;dsimp only)
  exact⟨rfl,_,rfl,Below.refl _ _,rfl⟩
 simp only[apN,apC]
 refine dv1 1 ?_
 refine dg0 2 ?_
 refine dg1 2 3 ?_
 refine dpo 2 4 ?_
 refine dv1 5 ?_
 refine dns hL ?_
 clear hL;intro w2 hL;simp only[zV,sTa,sTb]
 go_wp2
 (try simp only[Exit.inBlock,Exit.then]);refine rt1 ?_
 exact⟨by rfl,hL.below⟩
theorem Ya (k:Int) (w:World):
  Calls Tryz.prog 76 #[.int .i64 k] w fun e w'=>e=.returned (.bool (nN k))∧Below w.heap.size w w':=by
 have hL:=Loc.start w
 go_enter Tryz.func76,Tryz.ntmps76
 go_upto_region 1 with(fail)
 refine zJ [3,4,5,6,7,8,9,10,11,12,2] ?_
 refine dv0 ?_
 refine dv1 0 ?_
 refine dv1 1 ?_
 refine dg0 2 ?_
 refine dg1 2 3 ?_
 refine dpo 2 4 ?_
 refine dv1 5 ?_
 refine dg0 6 ?_
 refine' zG (j:=6) rfl rfl rfl (by decide) (by simp) ?_ ?_;rotate_left
 ·intro hcs;simp only[Bool.and_eq_true,jp,jq]at hcs;intro g w hb y;replace hL:=hL.grow hb;have d7:=yv y 7;simp only[hcs,beq_self_eq_true,Bool.and_self,Bool.true_and,Bool.and_true,zr]at d7;clear y;simp only[za,fLa,fLb,sTa,sTb];simp only[d7]
  go_wp2_with (go_at_call 54;refine(qp _ _ _ _).mono ?_;rintro e w' ⟨rfl,rfl⟩;dsimp only)
  exact⟨rfl,_,rfl,Below.refl _ _,rfl⟩
 simp only[apN,apC]
 refine dpo 6 8 ?_
 refine dv1 9 ?_
 refine dns hL ?_
 clear hL;intro w2 hL;simp only[zV,sTa,sTb]
 go_wp2
 (try simp only[Exit.inBlock,Exit.then]);refine rt1 ?_
 exact⟨by rfl,hL.below⟩
theorem Qt (k:Int) (w:World):
  Calls Tryz.prog 77 #[.int .i64 k] w fun e w'=>e=.returned (.bool (QR k))∧Below w.heap.size w w':=by
 have hL:=Loc.start w
 go_enter Tryz.func77,Tryz.ntmps77
 go_upto_region 1 with(fail)
 refine zJ [3,4,5,6,7,8,2] ?_
 refine dv0 ?_
 refine dv1 0 ?_
 refine dv1 1 ?_
 refine dg0 2 ?_
 refine dg1 2 3 ?_
 refine dpo 2 4 ?_
 refine dv1 5 ?_
 refine dns hL ?_
 clear hL;intro w2 hL;simp only[zV,sTa,sTb]
 go_wp2
 (try simp only[Exit.inBlock,Exit.then]);refine rt1 ?_
 exact⟨by rfl,hL.below⟩
def zgS:List (List UInt8):=[[],[110,117,109,98,101,114],[116,114,117,116,104],[110,117,108,108],[99,111,112,121],[97,100,100],[115,117,98],[109,117,108],[108,101,115,115],[115,97,109,101],[110,111,116],[110,101,119],[103,101,116],[112,117,116],[105,110,112,117,116],[105,102],[103,111,116,111],[101,120,112,101,99,116],[112,114,105,110,116],[101,110,100]]
def Qv (k:Int):ByteArray:=if z6 k 1 19 then ⟨(zgS.getD k.toNat []).toArray⟩ else ⟨#[]⟩
theorem jF {k:Int}(h:z6 k 1 19=true):k=1∨k=2∨k=3∨k=4∨k=5∨k=6∨k=7∨k=8∨k=9∨k=10∨k=11∨k=12∨k=13∨k=14∨k=15∨k=16∨k=17∨k=18∨k=19:=by
 simp[z6]at h;omega
theorem zbI {k:Int}(h:z6 k 1 19=true):(Qv k).toList.isEmpty=false:=by
 rcases jF h with rfl|rfl|rfl|rfl|rfl|rfl|rfl|rfl|rfl|rfl|rfl|rfl|rfl|rfl|rfl|rfl|rfl|rfl|rfl<;>decide +kernel
theorem K1 (k:Int) (w:World):
  Calls Tryz.prog 71 #[.int .i64 k] w fun e w'=>e=.returned (.string (Qv k))∧Below w.heap.size w w':=by
 cases hb:z6 k 1 19 with
 | false=>
  have hs:Qv k=⟨#[]⟩:=by simp[Qv,hb]
  have HS:=Lib.hid hs
  clear hs
  have hb2:(!z6 k 1 19)=true:=by simp[hb]
  clear hb
  have hL:=Loc.start w
  go_enter Tryz.func71,Tryz.ntmps71
  go_wp2_with (first|(with_reducible refine lbs hL ?_;clear hL;intro bl w1 hL)|(go_at_call 54;refine(qp _ _ _ _).mono ?_;rintro e w' ⟨rfl,rfl⟩;dsimp only))
  refine rt1 ?_
  exact⟨by rw[HS.out];rfl,hL.below⟩
 | true=>
  have hL:=Loc.start w
  rcases jF hb with rfl|rfl|rfl|rfl|rfl|rfl|rfl|rfl|rfl|rfl|rfl|rfl|rfl|rfl|rfl|rfl|rfl|rfl|rfl
  all_goals
   go_enter Tryz.func71,Tryz.ntmps71
   go_wp2_with (first|(with_reducible first|refine lld hL ?_|(refine lbs hL ?_;clear hL;intro bl w1 hL))|(go_at_call 54;refine(qp _ _ _ _).mono ?_;rintro e w' ⟨rfl,rfl⟩;dsimp only))
   refine rt1 ?_
   exact⟨by rfl,hL.below⟩
theorem ZB (n a b:Int) (w:World):
  Calls Tryz.prog 85 #[.int .i64 n,.int .i64 a,.int .i64 b] w fun e w'=>e=.returned (.bool (z6 n a b))∧w=w':=by
 by_cases h1:a≤n
 all_goals
  go_enter Tryz.func85,Tryz.ntmps85
  go_wp2
  go_ret
  exact⟨by simp[z6];omega,rfl⟩
def Jz (p:Pg) (c x:Int):Bool:=if c=118∨c=97∨c=98 then z6 x 0 (p.vars - 1) else if c=102 then z6 x 0 (p.fields - 1) else if c=103 then z6 x 0 p.n else true
def Yb (c x:Int):Bool:=if c=110 then z6 x (-2147483648) 2147483647 else if c=116 then z6 x 0 1 else if c=105 then z6 x 0 1000000 else true
def V2 (c:Int):Nat:=if c=118 then 1 else if c=97 then 2 else if c=98 then 3 else if c=103 then 5 else 4
theorem zdp (p:Pg) (c x:Int) (v1:1≤p.vars) (v2:p.vars≤8) (f1:0≤p.fields) (f2:p.fields≤3) (w:World):
  Calls Tryz.prog 133 #[p.v,.int .u8 c,.int .i64 x] w fun e w'=>e=.returned (.bool (Jz p c x))∧Below w.heap.size w w':=by
 have hL:=Loc.start w
 go_enter Tryz.func133,Tryz.ntmps133
 go_wp2_with (first|(with_reducible first|refine lld hL ?_|(refine lbx hL ?_;clear hL;intro bl w1 hL))|(go_at_call 85;refine(ZB _ _ _ _).mono ?_;rintro e w' ⟨rfl,rfl⟩;dsimp only))
 all_goals
  refine rt1 ?_
  exact⟨by simp_all [Jz],hL.below⟩
theorem zeH (c x:Int) (w:World):
  Calls Tryz.prog 134 #[.int .u8 c,.int .i64 x] w fun e w'=>e=.returned (.bool (Yb c x))∧w=w':=by
 go_enter Tryz.func134,Tryz.ntmps134
 go_wp2_with (first|(go_at_call 85;refine(ZB _ _ _ _).mono ?_;rintro e w' ⟨rfl,rfl⟩;dsimp only))
 all_goals
  go_ret
  exact⟨by simp_all [Yb],rfl⟩
theorem KG (b:Nat) (c:Int) (w:World):
  Calls Tryz.prog 117 #[.pointer (some ⟨b,0,none⟩),.int .u8 c] w fun e w'=>e=.returned (.pointer (some ⟨b,V2 c,none⟩))∧w=w':=by
 go_enter Tryz.func117,Tryz.ntmps117
 go_wp2
 all_goals
  go_ret
  exact⟨by simp_all [V2],rfl⟩
theorem UF:za0 Tryz.prog 159 3 162:=⟨by kernel_rfl,by kernel_rfl⟩
def qV:List (Int × Value):=[(1,.agg #[.string ⟨#[110,117,109,98,101,114]⟩,.string ⟨#[118,110]⟩]),(2,.agg #[.string ⟨#[116,114,117,116,104]⟩,.string ⟨#[118,116]⟩]),(3,.agg #[.string ⟨#[110,117,108,108]⟩,.string ⟨#[118]⟩]),(4,.agg #[.string ⟨#[99,111,112,121]⟩,.string ⟨#[118,97]⟩]),(5,.agg #[.string ⟨#[97,100,100]⟩,.string ⟨#[118,97,98]⟩]),(6,.agg #[.string ⟨#[115,117,98]⟩,.string ⟨#[118,97,98]⟩]),(7,.agg #[.string ⟨#[109,117,108]⟩,.string ⟨#[118,97,98]⟩]),(8,.agg #[.string ⟨#[108,101,115,115]⟩,.string ⟨#[118,97,98]⟩]),(9,.agg #[.string ⟨#[115,97,109,101]⟩,.string ⟨#[118,97,98]⟩]),(10,.agg #[.string ⟨#[110,111,116]⟩,.string ⟨#[118,97]⟩]),(11,.agg #[.string ⟨#[110,101,119]⟩,.string ⟨#[118]⟩]),(12,.agg #[.string ⟨#[103,101,116]⟩,.string ⟨#[118,97,102]⟩]),(13,.agg #[.string ⟨#[112,117,116]⟩,.string ⟨#[97,102,98]⟩]),(14,.agg #[.string ⟨#[105,110,112,117,116]⟩,.string ⟨#[118,105]⟩]),(15,.agg #[.string ⟨#[105,102]⟩,.string ⟨#[97,103]⟩]),(16,.agg #[.string ⟨#[103,111,116,111]⟩,.string ⟨#[103]⟩]),(17,.agg #[.string ⟨#[101,120,112,101,99,116]⟩,.string ⟨#[97]⟩]),(18,.agg #[.string ⟨#[112,114,105,110,116]⟩,.string ⟨#[97]⟩]),(19,.agg #[.string ⟨#[101,110,100]⟩,.string ⟨#[]⟩])]
section
variable {P : Program} {ops : Array Oper} {Q : Exit → Act → World → Prop} {a : Act} {w0 w : World} {rest : List Oper} {d : Option Tmp} {ty : TypeId} {pos : String} {after : Array Edge}
theorem zeI {T:TypeId}(h:∀ b w',w.heap.size≤b→Below w.heap.size w w'→w'.heap[b]? = some (.map (jo []).toArray ([]:List (Int × Value)).length)→wpList P ops Q rest (a.put d (.map (some b))) w'):
  wpList P ops Q (⟨d,.makeMap T none,ty,pos,after,none⟩::rest) a w:=
 z8 (o:=⟨d,.makeMap T none,ty,pos,after,none⟩) (w':=w.alloc (.map #[] 0)) rfl (by simp[execOp,Instr.makeMap,newObj];rfl)
  (h _ _ (Nat.le_refl _) ((Below.refl _ _).alloc (Nat.le_refl _) _) (by show (w.heap.push _)[w.heap.size]? = _;simp[jo]))
theorem zbJ {T K V:TypeId}(hT:za0 P T K V) {B b:Nat}{l:List (Int × Value)}{m k v:Operand}{kk:Int}{vv:Value}(hge:B≤b) (hbel:Below B w0 w) (hm:w.heap[b]? = some (.map (jo l).toArray l.length))
  (hx:a.eval m=.map (some b)) (hk:a.eval k=.int .i64 kk) (hv:a.eval v=vv) (hn:l.all (fun x=>!(kk==x.1))=true)
  (h:∀ w',Below B w0 w'→w'.heap[b]? = some (.map (jo (l++[(kk,vv)])).toArray (l++[(kk,vv)]).length)→wpList P ops Q rest (a.put d undef) w'):
  wpList P ops Q (⟨d,.insert T m k v,ty,pos,after,none⟩::rest) a w:=by
 have hlt:=zL hm
 refine Ub (o:=⟨d,.insert T m k v,ty,pos,after,none⟩) (w':={ w with heap:=w.heap.setIfInBounds b (.map (jo (l++[(kk,vv)])).toArray (l++[(kk,vv)]).length) }) rfl ?_ (h _ ⟨hbel.os,hbel.tape,hbel.output,by simpa using hbel.size,fun i hi=>?_⟩ (by simp[hlt]))
 ·simp only[execOp,hx,hk,hv]
  rw[Sem.run_bind,za1 hT hm hn]
  rfl
 ·rw[← hbel.block i hi]
  have:b≠i:=by omega
  simp[Array.getElem?_setIfInBounds,this]
end
theorem Y7 (w:World):
  Calls Tryz.prog 116 #[] w fun e w'=>∃ b,e=.returned (.map (some b))∧w.heap.size≤b∧w'.heap[b]? = some (.map (jo qV).toArray qV.length)∧Below w.heap.size w w':=by
 go_enter Tryz.func116,Tryz.ntmps116
 go_wp2_with (first|((with_reducible refine' zeI ?_);intro b w1 hge hbel hm)|((with_reducible refine' zbJ UF hge hbel hm rfl rfl rfl ?_ ?_);(case refine'_1=>rfl);clear hm hbel;intro w1 hbel hm;simp only[List.cons_append,List.nil_append]at hm))
 go_ret
 exact⟨b,rfl,hge,hm,hbel⟩
structure Y8 (P:Program) (T:TypeId) (es:Nat) (w:World) (p:Option Addr) (n:Nat) (f:Nat→Value):Prop where
 ex:∃ b o:Nat,(0<n→p=some ⟨b,o,none⟩)∧∀ k,k<n→zg P T w b (o+k*es) (f k)
theorem zg.grow {P:Program}{T:TypeId}{w w' : World}{b off:Nat}{v:Value}(h:zg P T w b off v) (hb:Below w.heap.size w w'):zg P T w' b off v:=
 ⟨Nat.lt_of_lt_of_le h.lt hb.size,fun w2 h2=>h.run w2 (fun j=>(h2 j).trans (hb.cell (p:=⟨b,j,none⟩) h.lt))⟩
theorem Y8.grow {P:Program}{T:TypeId}{es:Nat}{w w' : World}{p:Option Addr}{n:Nat}{f:Nat→Value}(h:Y8 P T es w p n f) (hb:Below w.heap.size w w'):Y8 P T es w' p n f:=by
 obtain⟨b,o,h1,h2⟩:=h.ex
 exact⟨b,o,h1,fun k hk=>(h2 k hk).grow hb⟩
structure je (w:World) (es:Nat) (p:Option Addr) (n:Nat) (cells:Nat→List Value):Prop where
 ex:∃ b o:Nat,(0<n→p=some ⟨b,o,none⟩)∧∀ k,k<n→b<w.heap.size∧∀ j v,(cells k)[j]? = some v→w.cell? ⟨b,o+k*es+j,none⟩=some v
theorem je.grow {w w' : World}{es:Nat}{p:Option Addr}{n:Nat}{cells:Nat→List Value}(h:je w es p n cells) (hb:Below w.heap.size w w'):je w' es p n cells:=by
 obtain⟨b,o,h1,h2⟩:=h.ex
 exact⟨b,o,h1,fun k hk=>⟨Nat.lt_of_lt_of_le (h2 k hk).1 hb.size,fun j v hj=>(hb.cell (p:=⟨b,o+k*es+j,none⟩) (h2 k hk).1).trans ((h2 k hk).2 j v hj)⟩⟩
theorem je.agg {P:Program}{T:TypeId}{w:World}{es:Nat}{p:Option Addr}{n:Nat}{cells:Nat→List Value}(hT:Yx P T es) (h:je w es p n cells) (hl:∀ k,(cells k).length=es):Y8 P T es w p n (fun k=>.agg (cells k).toArray):=by
 obtain⟨b,o,h1,h2⟩:=h.ex
 exact⟨b,o,h1,fun k hk=>zg.agg hT (h2 k hk).1 (h2 k hk).2 (hl k)⟩
def j7 (q:Nat→Bool) (n:Nat):Bool:=(List.range n).any q
theorem qY {q:Nat→Bool}{n k:Nat}(hk:k<n) (h:q k=true):j7 q n=true:=by
 unfold j7;rw[List.any_eq_true];exact⟨k,List.mem_range.2 hk,h⟩
theorem jx {q:Nat→Bool}{n:Nat}(h:∀ k,k<n→q k=false):j7 q n=false:=by
 unfold j7;rw[List.any_eq_false];intro k hk;simp[h k (List.mem_range.1 hk)]
structure zgT (P:Program) (K:FuncId) (c:Value) (w:World) (n:Nat) (f:Nat→Value) (q:Nat→Bool):Prop where
 enter:∀ args w,(callFunc K args).run P w=.ok (.enter K args) w
 run:∀ k,k<n→∀ w',Below w.heap.size w w'→Calls P K #[f k,c] w' fun e w''=>e=.returned (.bool (q k))∧Below w'.heap.size w' w''
theorem KH {q:Nat→Bool}{n:Nat}:j7 q n=true↔∃ k,k<n∧q k=true:=by
 unfold j7;rw[List.any_eq_true]
 exact⟨fun ⟨k,h1,h2⟩=>⟨k,List.mem_range.1 h1,h2⟩,fun ⟨k,h1,h2⟩=>⟨k,List.mem_range.2 h1,h2⟩⟩
structure Vl where
 kind:Int
 n:Int
abbrev Vl.cells (v:Vl):List Value:=[.int .i64 v.kind,.int .i64 v.n]
abbrev Vl.v (v:Vl):Value:=.agg #[.int .i64 v.kind,.int .i64 v.n]
structure Sl where
 p:Option Addr
 n:Nat
 cap:Nat
abbrev Sl.v (s:Sl):Value:=.slice s.p s.n s.cap
abbrev zn:Sl:=⟨none,0,0⟩
structure zp (w:World) (s:Sl) (l:List Int):Prop where
 n:s.n=l.length
 m:s.n≤9223372036854775807
 at' : je w 1 s.p s.n (fun k=>[.int .i64 (l.getD k 0)])
theorem zp.grow {w w' : World}{s:Sl}{l:List Int}(h:zp w s l) (hb:Below w.heap.size w w'):zp w' s l:=⟨h.n,h.m,h.at'.grow hb⟩
theorem zp.nil (w:World):zp w zn []:=⟨rfl,by decide,⟨0,0,fun h=>absurd h (Nat.lt_irrefl 0),fun k hk=>absurd hk (Nat.not_lt_zero k)⟩⟩
theorem zp.reads {P:Program}{T:TypeId}{w:World}{s:Sl}{l:List Int}(hT:yg P T) (h:zp w s l):∃ b o:Nat,(0<s.n→s.p=some ⟨b,o,none⟩)∧∀ k,k<s.n→zg P T w b (o+k) (.int .i64 (l.getD k 0)):=by
 obtain⟨b,o,h1,h2⟩:=h.at'.ex
 exact⟨b,o,h1,fun k hk=>by
  have:=zg.cell (P:=P) hT (h2 k hk).1 ((h2 k hk).2 0 _ rfl)
  simpa using this⟩
theorem zM.ints {w:World}{B E:Nat}{p:Option Addr}{n cap:Nat}{R:List zj}{l:List Int}(h:zM E 1 p n cap (l.map (fun x=>Value.int .i64 x)) R) (ho:Own B w R):zp w ⟨p,n,cap⟩ l:=by
 obtain⟨h1,h2⟩:=h
 have hn:n=l.length:=by simpa using h1.symm
 rcases h2 with⟨h3,h4,_⟩|⟨g,cs,hp,hR,h3,h4,hcs,htk⟩
 ·exact⟨hn,by show n≤_;omega,⟨0,0,fun h=>absurd h (by show ¬ 0<n;omega),fun k hk=>absurd hk (by show ¬ k<n;omega)⟩⟩
 ·subst hR
  have hg:=(ho.at' _ List.mem_cons_self).2
  refine⟨hn,Nat.le_trans h3 (Nat.le_trans h4 (by decide)),⟨g,0,fun _=>hp,fun k hk=>⟨zL hg,fun j v hj=>?_⟩⟩⟩
  have hk' : k<n:=hk
  have hj0:j=0:=by
   have:=(List.getElem?_eq_some_iff.1 hj).1
   simpa using this
  subst hj0
  have hv:v=.int .i64 (l.getD k 0):=by simpa using hj.symm
  subst hv
  have h5:(cs.take (n*1))[k]? = some (.int .i64 (l.getD k 0)):=by
   rw[htk,List.getElem?_map,List.getD_eq_getElem?_getD,List.getElem?_eq_getElem (by omega)]
   simp
  rw[List.getElem?_take]at h5
  split at h5
  ·simp[World.cell?,hg,h5]
  ·cases h5
theorem QS {α:Type}{f:α→List Value}{es:Nat}(hf:∀ x,(f x).length=es):∀ l:List α,(l.flatMap f).length=l.length*es
 | []=>by simp
 | x::l=>by rw[List.flatMap_cons,List.length_append,hf,QS hf l,List.length_cons,Nat.add_mul];omega
theorem Zi {α:Type}{f:α→List Value}{es:Nat}(hf:∀ x,(f x).length=es) (d:α):∀ (l:List α) (k j:Nat),k<l.length→j<es→(l.flatMap f)[k*es+j]? = (f (l.getD k d))[j]?
 | [],k,j,hk,_=>absurd hk (by simp)
 | x::l,0,j,_,hj=>by
  rw[List.flatMap_cons,List.getElem?_append_left (by rw[hf];omega)]
  simp
 | x::l,k+1,j,hk,hj=>by
  have e:(k+1)*es+j - es=k*es+j:=by rw[Nat.add_mul];omega
  rw[List.flatMap_cons,List.getElem?_append_right (by rw[hf,Nat.add_mul];omega),hf,e,Zi hf d l k j (by simpa using hk) hj]
  simp
theorem zbK {α:Type}{f:α→List Value}{es:Nat}(hf:∀ x,(f x).length=es) (l:List α) {i:Nat}{u:Value}(h:(l.flatMap f)[i]? = some u):∃ k j,k<l.length∧j<es∧i=k*es+j:=by
 have hi:=(List.getElem?_eq_some_iff.1 h).1
 rw[QS hf]at hi
 have hes:0<es:=by
  rcases Nat.eq_zero_or_pos es with h0|h0
  ·subst h0;simp at hi
  ·exact h0
 refine⟨i / es,i % es,(Nat.div_lt_iff_lt_mul hes).2 hi,Nat.mod_lt _ hes,?_⟩
 rw[Nat.mul_comm];exact(Nat.div_add_mod i es).symm
theorem je.news {w:World}{es n:Nat}{α:Type}{f:α→List Value}(hf:∀ x,(f x).length=es) {d:α}{l:List α}{p:Option Addr}(h:je w es p n (fun k=>f (l.getD k d))) (hn:n=l.length):
  0<n→∃ ad,p=some ad∧∀ j u,(l.flatMap f)[j]? = some u→w.cell? (ad.add j)=some u:=by
 intro hpos
 obtain⟨b,o,h1,h2⟩:=h.ex
 refine⟨⟨b,o,none⟩,h1 hpos,fun i u hi=>?_⟩
 obtain⟨k,j,hk,hj,rfl⟩:=zbK hf l hi
 rw[Zi hf d l k j hk hj]at hi
 rw[zH,← Nat.add_assoc]
 exact(h2 k (by omega)).2 j u hi
theorem zM.listC {w:World}{B E es:Nat}{p:Option Addr}{n cap:Nat}{R:List zj}{α:Type}{f:α→List Value}(hf:∀ x,(f x).length=es) (d:α) {l:List α}(h:zM E es p n cap (l.flatMap f) R) (hes:0<es) (ho:Own B w R):
  n=l.length∧je w es p n (fun k=>f (l.getD k d)):=by
 obtain⟨h1,h2⟩:=h
 rw[QS hf]at h1
 have hn:n=l.length:=(Nat.eq_of_mul_eq_mul_right hes h1).symm
 refine⟨hn,?_⟩
 rcases h2 with⟨h3,_,_⟩|⟨g,cs,hp,hR,_,_,hcs,htk⟩
 ·exact⟨⟨0,0,fun h=>absurd h (by omega),fun k hk=>absurd hk (by omega)⟩⟩
 ·subst hR
  have hg:=(ho.at' _ List.mem_cons_self).2
  refine⟨⟨g,0,fun _=>hp,fun k hk=>⟨zL hg,fun j v hj=>?_⟩⟩⟩
  have hjl:j<es:=by rw[← hf (l.getD k d)];exact(List.getElem?_eq_some_iff.1 hj).1
  rw[← Zi hf d l k j (by omega) hjl,← htk,List.getElem?_take]at hj
  split at hj
  ·simp[World.cell?,hg,hj]
  ·cases hj
theorem zM.max {E es:Nat}{p:Option Addr}{n cap:Nat}{xs:List Value}{R:List zj}(h:zM E es p n cap xs R):n≤9223372036854775807:=by
 rcases h.2 with⟨h1,_,_⟩|⟨g,cs,_,_,h1,h2,_⟩
 ·omega
 ·exact Nat.le_trans h1 (Nat.le_trans h2 (by decide))
theorem Qu {α:Type}(n:Nat) (f:Nat→α) (d:α) (k:Nat) (hk:k<n):((List.range n).map f).getD k d=f k:=by
 simp[List.getD_eq_getElem?_getD,List.getElem?_map,List.getElem?_range hk]
theorem je.congr {w:World}{es:Nat}{p:Option Addr}{n:Nat}{c c' : Nat→List Value}(h:je w es p n c) (e:∀ k,k<n→c' k=c k):je w es p n c':=by
 obtain⟨b,o,h1,h2⟩:=h.ex
 exact⟨b,o,h1,fun k hk=>by rw[e k hk];exact h2 k hk⟩
theorem zaB {cs vs:List Value}{off:Nat}(h:off+vs.length≤cs.length) (i:Nat):(zk cs off vs)[i]? = if i<off then cs[i]? else if i<off+vs.length then vs[i - off]? else cs[i]? :=by
 unfold zk
 by_cases h1:i<off
 ·rw[if_pos h1,List.getElem?_append_left (by rw[List.length_take];omega),List.getElem?_take,if_pos h1]
 ·rw[if_neg h1,List.getElem?_append_right (by rw[List.length_take];omega),List.length_take,Nat.min_eq_left (by omega)]
  by_cases h2:i<off+vs.length
  ·rw[if_pos h2,List.getElem?_append_left (by omega)]
  ·rw[if_neg h2,List.getElem?_append_right (by omega),List.getElem?_drop]
   congr 1;omega
theorem zaC {cs vs:List Value}{off:Nat}(h:off+vs.length≤cs.length):(zk cs off vs).length=cs.length:=by
 unfold zk
 simp only[List.length_append,List.length_take,List.length_drop];omega
section
variable {E es g n cap : Nat} {cs : List Value} {p : Option Addr} {α : Type} {f : α → List Value} {d : α} {l : List α} {k : Nat}
theorem zM.block {xs:List Value}{R:List zj}(h:zM E es p n cap xs R) (hn:0<n):∃ g cs,p=some ⟨g,0,none⟩∧R=[(g,E,cs)]∧cs.take (n*es)=xs∧cs.length=cap*es:=by
 rcases h.2 with⟨h1,_⟩|⟨g,cs,h1,h2,_,_,h3,h4⟩
 ·omega
 ·exact⟨g,cs,h1,h2,h4,h3⟩
theorem zM.same {xs:List Value}(h:zM E es p n cap xs [(g,E,cs)]):p=some ⟨g,0,none⟩∧n≤cap∧cap≤maxLen∧cs.length=cap*es∧cs.take (n*es)=xs:=by
 rcases h.2 with⟨_,_,h3⟩|⟨g',cs',h1,h2,h3,h4,h5,h6⟩
 ·cases h3
 ·simp only[List.cons.injEq,Prod.mk.injEq,and_true,true_and]at h2
  obtain⟨rfl,rfl⟩:=h2
  exact⟨h1,h3,h4,h5,h6⟩
theorem zM.elem (hf:∀ x,(f x).length=es) (d:α) (h:zM E es p n cap (l.flatMap f) [(g,E,cs)]) (hk:k<n):(cs.drop (k*es)).take es=f (l.getD k d):=by
 obtain⟨_,h3,_,h5,h6⟩:=h.same
 have hlen:=h.1
 rw[QS hf]at hlen
 have hes:k*es+es≤n*es:=by rw[show k*es+es=(k+1)*es by rw[Nat.add_mul,Nat.one_mul]];exact Nat.mul_le_mul_right _ hk
 have hce:n*es≤cap*es:=Nat.mul_le_mul_right _ h3
 apply List.ext_getElem?
 intro j
 by_cases hj:j<es
 ·have hes0:0<es:=by omega
  have hl:l.length=n:=Nat.eq_of_mul_eq_mul_right hes0 hlen
  rw[List.getElem?_take,if_pos hj,List.getElem?_drop,← Zi hf d l k j (by omega) hj,← h6,List.getElem?_take,if_pos (by omega)]
 ·rw[List.getElem?_eq_none (by rw[List.length_take,List.length_drop];omega),List.getElem?_eq_none (by rw[hf];omega)]
theorem zM.put (hf:∀ x,(f x).length=es) (d:α) (h:zM E es p n cap (l.flatMap f) [(g,E,cs)]) (hk:k<n) (v:α):zM E es p n cap ((l.set k v).flatMap f) [(g,E,zk cs (k*es) (f v))]:=by
 obtain⟨h2,h3,h4,h5,h6⟩:=h.same
 have hlen:=h.1
 rw[QS hf]at hlen
 have hes:k*es+es≤n*es:=by rw[show k*es+es=(k+1)*es by rw[Nat.add_mul,Nat.one_mul]];exact Nat.mul_le_mul_right _ hk
 have hce:n*es≤cap*es:=Nat.mul_le_mul_right _ h3
 have hsp:k*es+(f v).length≤cs.length:=by rw[hf,h5];omega
 refine⟨by rw[QS hf,List.length_set,hlen],.inr ⟨g,_,h2,rfl,h3,h4,by rw[zaC hsp,h5],?_⟩⟩
 apply List.ext_getElem?
 intro i
 by_cases hi:i<n*es
 ·have hes0:0<es:=by
   rcases Nat.eq_zero_or_pos es with h0|h0
   ·subst h0;simp at hi
   ·exact h0
  have hl:l.length=n:=Nat.eq_of_mul_eq_mul_right hes0 hlen
  obtain⟨k',j,hk',hj,rfl⟩:∃ k' j,k' < l.length∧j<es∧i=k' * es+j:=
   ⟨i / es,i % es,by rw[hl];exact(Nat.div_lt_iff_lt_mul hes0).2 hi,Nat.mod_lt _ hes0,by rw[Nat.mul_comm];exact(Nat.div_add_mod i es).symm⟩
  rw[List.getElem?_take,if_pos hi,zaB hsp,hf,Zi hf d (l.set k v) k' j (by rw[List.length_set];exact hk') hj]
  by_cases hkk:k'=k
  ·subst hkk
   rw[if_neg (by omega),if_pos (by omega)]
   simp[List.getD_eq_getElem?_getD,hk',Nat.add_sub_cancel_left]
  ·have hlt:k' < k∨k<k':=by omega
   have hold:cs[k' * es+j]? = (f (l.getD k' d))[j]? :=by
    rw[← Zi hf d l k' j hk' hj,← h6,List.getElem?_take,if_pos hi]
   have hget:(l.set k v).getD k' d=l.getD k' d:=by
    simp[List.getD_eq_getElem?_getD,List.getElem?_set,Ne.symm hkk]
   rw[hget,← hold]
   rcases hlt with h' | h'
   ·have:k' * es+es≤k*es:=by rw[show k' * es+es=(k' + 1)*es by rw[Nat.add_mul,Nat.one_mul]];exact Nat.mul_le_mul_right _ h'
    rw[if_pos (by omega)]
   ·have:k*es+es≤k' * es:=by rw[show k*es+es=(k+1)*es by rw[Nat.add_mul,Nat.one_mul]];exact Nat.mul_le_mul_right _ h'
    rw[if_neg (by omega),if_neg (by omega)]
 ·rw[List.getElem?_eq_none (by rw[List.length_take];omega),List.getElem?_eq_none (by rw[QS hf,List.length_set,hlen];omega)]
theorem zM.flatlen (hf:∀ x,(f x).length=es) (hes:0<es) {R:List zj}(h:zM E es p n cap (l.flatMap f) R):n=l.length:=by
 have hlen:=h.1
 rw[QS hf]at hlen
 exact(Nat.eq_of_mul_eq_mul_right hes hlen).symm
end
end Go.Proofs.YtplcndmdkabmeaaGreatDoor
