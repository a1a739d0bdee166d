/- Slices of elements in a call's own memory: elements are read and stored. Over any program. Conditions: none. -/
import Derived.Test.YtplcndmdkabmeaaGreatDoorLib
import Derived.Deep.Cut
set_option linter.unusedSimpArgs false
set_option linter.unusedVariables false
set_option maxRecDepth 100000
set_option maxHeartbeats 4000000
namespace Go.Proofs.YtplcndmdkabmeaaGreatDoor
open Go.Proofs.Tryz
open Go.RowKit
theorem y2:jy prog 3:=⟨by kernel_rfl,by kernel_rfl⟩
theorem J0:jy prog 4:=⟨by kernel_rfl,by kernel_rfl⟩
theorem GU:jy prog 22:=⟨by kernel_rfl,by kernel_rfl⟩
theorem zfV:jy prog 9:=⟨by kernel_rfl,by kernel_rfl⟩
theorem GV:jy prog 25:=⟨by kernel_rfl,by kernel_rfl⟩
theorem Ga:Ye prog 27 3:=⟨by kernel_rfl,by kernel_rfl⟩
theorem jP:Ye prog 86 6:=⟨by kernel_rfl,by kernel_rfl⟩
theorem zfW:Ye prog 162 2:=⟨by kernel_rfl,by kernel_rfl⟩
theorem zii:yx prog 86 [.int .i64 0,.int .i64 0,.int .i64 0,.int .i64 0,.int .i64 0,.int .i64 0]:=⟨by kernel_rfl⟩
theorem zij:yx prog 162 [.string ⟨#[]⟩,.string ⟨#[]⟩]:=⟨by kernel_rfl⟩
theorem ziQ:yx prog 27 [.int .i64 0,.int .i64 0,.slice none 0 0]:=⟨by kernel_rfl⟩
theorem Gb:q5 prog 44 9 [.string ⟨#[]⟩]:=⟨by kernel_rfl,⟨by kernel_rfl⟩,⟨by kernel_rfl⟩⟩
theorem zhb:q5 prog 25 86 [.int .i64 0,.int .i64 0,.int .i64 0,.int .i64 0,.int .i64 0,.int .i64 0]:=⟨by kernel_rfl,⟨by kernel_rfl⟩,⟨by kernel_rfl⟩⟩
theorem zfX:Ye prog 106 3:=⟨by kernel_rfl,by kernel_rfl⟩
theorem ziR:yx prog 106 [.bool false,.int .i64 0,.int .i64 0]:=⟨by kernel_rfl⟩
theorem V4:q5 prog 37 3 [.int .i64 0]:=⟨by kernel_rfl,⟨by kernel_rfl⟩,⟨by kernel_rfl⟩⟩
theorem KM:jy prog 37:=⟨by kernel_rfl,by kernel_rfl⟩
theorem zfY:yL prog 3 8:=⟨by kernel_rfl⟩
theorem zik:yL prog 9 16:=⟨by kernel_rfl⟩
theorem zfZ:jy prog 44:=⟨by kernel_rfl,by kernel_rfl⟩
theorem Jz:jy prog 42:=⟨by kernel_rfl,by kernel_rfl⟩
theorem QP:jy prog 43:=⟨by kernel_rfl,by kernel_rfl⟩
theorem jk:Ye prog 77 2:=⟨by kernel_rfl,by kernel_rfl⟩
theorem GW:Ye prog 79 2:=⟨by kernel_rfl,by kernel_rfl⟩
theorem zil:Ye prog 46 6:=⟨by kernel_rfl,by kernel_rfl⟩
theorem zcE:yx prog 77 [.int .i64 0,.int .i64 0]:=⟨by kernel_rfl⟩
theorem zim:yx prog 79 [.int .i64 0,.slice none 0 0]:=⟨by kernel_rfl⟩
theorem zji:yx prog 46 [.int .i64 0,.slice none 0 0,.slice none 0 0,.int .i64 0,.slice none 0 0,.int .i64 0]:=⟨by kernel_rfl⟩
theorem Zi:q5 prog 42 77 [.int .i64 0,.int .i64 0]:=⟨by kernel_rfl,⟨by kernel_rfl⟩,⟨by kernel_rfl⟩⟩
theorem GX:q5 prog 43 79 [.int .i64 0,.slice none 0 0]:=⟨by kernel_rfl,⟨by kernel_rfl⟩,⟨by kernel_rfl⟩⟩
theorem V5:yL prog 77 16:=⟨by kernel_rfl⟩
theorem zcF:yL prog 79 32:=⟨by kernel_rfl⟩
theorem zO:Ye prog 108 7:=⟨by kernel_rfl,by kernel_rfl⟩
theorem zin:yx prog 108 [.bool false,.bool false,.int .i64 0,.int .i64 0,.bool false,.bool false,.slice none 0 0]:=⟨by kernel_rfl⟩
theorem ZP:yL prog 108 64:=⟨by kernel_rfl⟩
theorem jZ:jy prog 51:=⟨by kernel_rfl,by kernel_rfl⟩
theorem jC:q5 prog 51 108 [.bool false,.bool false,.int .i64 0,.int .i64 0,.bool false,.bool false,.slice none 0 0]:=⟨by kernel_rfl,⟨by kernel_rfl⟩,⟨by kernel_rfl⟩⟩
theorem zio:q5 prog 124 4 [.bool false]:=⟨by kernel_rfl,⟨by kernel_rfl⟩,⟨by kernel_rfl⟩⟩
theorem zf0:jy prog 124:=⟨by kernel_rfl,by kernel_rfl⟩
theorem zf1:jy prog 52:=⟨by kernel_rfl,by kernel_rfl⟩
theorem UK:q5 prog 52 51 [.slice none 0 0]:=⟨by kernel_rfl,⟨by kernel_rfl⟩,⟨by kernel_rfl⟩⟩
theorem zcG:yL prog 51 24:=⟨by kernel_rfl⟩
theorem Zj:Ye prog 54 3:=⟨by kernel_rfl,by kernel_rfl⟩
theorem zjj:yx prog 54 [.bool false,.slice none 0 0,.slice none 0 0]:=⟨by kernel_rfl⟩
theorem zf2:jy prog 58:=⟨by kernel_rfl,by kernel_rfl⟩
theorem UL:q5 prog 58 54 [.bool false,.slice none 0 0,.slice none 0 0]:=⟨by kernel_rfl,⟨by kernel_rfl⟩,⟨by kernel_rfl⟩⟩
theorem zf3:Ye prog 75 4:=⟨by kernel_rfl,by kernel_rfl⟩
theorem ziS:yx prog 75 [.int .i64 0,.bool false,.slice none 0 0,.slice none 0 0]:=⟨by kernel_rfl⟩
theorem zdh:yL prog 75 64:=⟨by kernel_rfl⟩
theorem zf4:jy prog 63:=⟨by kernel_rfl,by kernel_rfl⟩
theorem V6:q5 prog 63 75 [.int .i64 0,.bool false,.slice none 0 0,.slice none 0 0]:=⟨by kernel_rfl,⟨by kernel_rfl⟩,⟨by kernel_rfl⟩⟩
theorem zf5:Ye prog 35 2:=⟨by kernel_rfl,by kernel_rfl⟩
theorem ziq:yx prog 35 [.int .i64 0,.int .i64 0]:=⟨by kernel_rfl⟩
theorem zdi:jy prog 32:=⟨by kernel_rfl,by kernel_rfl⟩
theorem zhc:q5 prog 32 35 [.int .i64 0,.int .i64 0]:=⟨by kernel_rfl,⟨by kernel_rfl⟩,⟨by kernel_rfl⟩⟩
structure Ins where
 kind:Int
 to:Int
 a:Int
 b:Int
 n:Int
 goto:Int
abbrev Ins.cells (i:Ins):List Value:=[.int .i64 i.kind,.int .i64 i.to,.int .i64 i.a,.int .i64 i.b,.int .i64 i.n,.int .i64 i.goto]
abbrev Ins.v (i:Ins):Value:=.agg #[.int .i64 i.kind,.int .i64 i.to,.int .i64 i.a,.int .i64 i.b,.int .i64 i.n,.int .i64 i.goto]
structure Pg where
 vars:Int
 fields:Int
 pc:Option Addr
 n:Nat
 cap:Nat
abbrev Pg.v (p:Pg):Value:=.agg #[.int .i64 p.vars,.int .i64 p.fields,.slice p.pc p.n p.cap]
def zU (n a b:Int):Bool:=decide (a<=n)&&decide (n<=b)
def nTo (k:Int):Bool:=zU k 1 12 || k==14
def nA (k:Int):Bool:=zU k 4 10 || k==12 || k==13 || k==15 || k==17 || k==18
def nB (k:Int):Bool:=zU k 5 9 || k==13
def nN (k:Int):Bool:=k==1 || k==2 || zU k 12 14
def V7 (k:Int):Bool:=k==15 || k==16
def YA (p:Pg) (i:Ins):Bool:=nTo i.kind && !zU i.to 0 (p.vars - 1) || nA i.kind && !zU i.a 0 (p.vars - 1) || nB i.kind && !zU i.b 0 (p.vars - 1) || (i.kind==12 || i.kind==13) && !zU i.n 0 (p.fields - 1) || V7 i.kind && !zU i.goto 0 p.n
def JG (i:Ins):Bool:=i.kind==1 && !zU i.n (-2147483648) 2147483647 || i.kind==2 && !zU i.n 0 1 || i.kind==14 && !zU i.n 0 1000000
def jQ (i:Ins):Bool:=!nTo i.kind&&i.to != 0 || !nA i.kind&&i.a != 0 || !nB i.kind&&i.b != 0 || !nN i.kind&&i.n != 0 || !V7 i.kind&&i.goto != 0
def zQ (p:Pg) (i:Ins):Int:=if !zU i.kind 1 19 then 6 else if YA p i then 5 else if JG i then 3 else if jQ i then 1 else 0
theorem qi (n a b:Int) (w:World):
  Calls prog 54 #[.int .i64 n,.int .i64 a,.int .i64 b] w fun e i=>e=.returned (.bool (zU n a b))∧w=i:=by
 by_cases j:a<=n
 all_goals
  go_enter func54,ntmps54;go_wp2;go_ret;exact⟨by simp[zU];omega,rfl⟩
theorem KN (k:Int) (w:World):
  Calls prog 73 #[.int .i64 k] w fun e i=>e=.returned (.bool (nTo k))∧Below w.heap.size w i:=by
 have J:=Loc.start w;go_enter func73,ntmps73;go_upto_region 1 with(fail)
 refine zx [3,4,5,6,7,8,2] ?_;refine qdv ?_;refine qdk J (fun _ j J=>qk0 (qi _ _ _ _)) ?_
 iterate 5 refine qda ?_
 refine dns J ?_;clear J;intro o J;simp only[zr,sTa,sTb];go_wp2
 (try simp only[Exit.inBlock,Exit.then]);refine rt1 ?_
 exact⟨by rfl,J.below⟩
theorem qj (k:Int) (w:World):
  Calls prog 74 #[.int .i64 k] w fun e i=>e=.returned (.bool (nA k))∧Below w.heap.size w i:=by
 have J:=Loc.start w;go_enter func74,ntmps74;go_upto_region 1 with(fail)
 refine zx [3,4,5,6,7,8,9,10,11,12,13,14,15,16,17,18,19,20,21,22,23,24,2] ?_;refine qdv ?_;refine qdk J (fun _ j J=>qk0 (qi _ _ _ _)) ?_
 iterate 21 refine qda ?_
 refine dns J ?_;clear J;intro o J;simp only[zr,sTa,sTb];go_wp2
 (try simp only[Exit.inBlock,Exit.then]);refine rt1 ?_
 exact⟨by rfl,J.below⟩
theorem qk (k:Int) (w:World):
  Calls prog 75 #[.int .i64 k] w fun e i=>e=.returned (.bool (nB k))∧Below w.heap.size w i:=by
 have J:=Loc.start w;go_enter func75,ntmps75;go_upto_region 1 with(fail)
 refine zx [3,4,5,6,7,8,2] ?_;refine qdv ?_;refine qdk J (fun _ j J=>qk0 (qi _ _ _ _)) ?_
 iterate 5 refine qda ?_
 refine dns J ?_;clear J;intro o J;simp only[zr,sTa,sTb];go_wp2
 (try simp only[Exit.inBlock,Exit.then]);refine rt1 ?_
 exact⟨by rfl,J.below⟩
theorem zbb (k:Int) (w:World):
  Calls prog 76 #[.int .i64 k] w fun e i=>e=.returned (.bool (nN k))∧Below w.heap.size w i:=by
 have J:=Loc.start w;go_enter func76,ntmps76;go_upto_region 1 with(fail)
 refine zx [3,4,5,6,7,8,9,10,11,12,2] ?_
 iterate 8 refine qda ?_
 refine yu J (fun _ j J=>qk0 (qi _ _ _ _)) ?_
 iterate 2 refine qdv ?_
 refine dns J ?_;clear J;intro o J;simp only[zr,sTa,sTb];go_wp2
 (try simp only[Exit.inBlock,Exit.then]);refine rt1 ?_
 exact⟨by rfl,J.below⟩
theorem ZQ (k:Int) (w:World):
  Calls prog 77 #[.int .i64 k] w fun e i=>e=.returned (.bool (V7 k))∧Below w.heap.size w i:=by
 have J:=Loc.start w;go_enter func77,ntmps77;go_upto_region 1 with(fail)
 refine zx [3,4,5,6,7,8,2] ?_
 iterate 7 refine qda ?_
 refine dns J ?_;clear J;intro j J;simp only[zr,sTa,sTb];go_wp2
 (try simp only[Exit.inBlock,Exit.then]);refine rt1 ?_
 exact⟨by rfl,J.below⟩
def ziT:List (List UInt8):=[[],[110,117,109,98,101,114],[116,114,117,116,104],[110,117,108,108],[99,111,112,121],[97,100,100],[115,117,98],[109,117,108],[108,101,115,115],[115,97,109,101],[110,111,116],[110,101,119],[103,101,116],[112,117,116],[105,110,112,117,116],[105,102],[103,111,116,111],[101,120,112,101,99,116],[112,114,105,110,116],[101,110,100]]
def V8 (k:Int):ByteArray:=if zU k 1 19 then ⟨(ziT.getD k.toNat []).toArray⟩ else ⟨#[]⟩
theorem yf {k:Int}(h:zU k 1 19=true):k=1∨k=2∨k=3∨k=4∨k=5∨k=6∨k=7∨k=8∨k=9∨k=10∨k=11∨k=12∨k=13∨k=14∨k=15∨k=16∨k=17∨k=18∨k=19:=by
 simp[zU]at h;omega
theorem zcH {k:Int}(h:zU k 1 19=true):(V8 k).toList.isEmpty=false:=by
 rcases yf h with rfl|rfl|rfl|rfl|rfl|rfl|rfl|rfl|rfl|rfl|rfl|rfl|rfl|rfl|rfl|rfl|rfl|rfl|rfl<;>decide +kernel
theorem Gc (k:Int) (w:World):
  Calls prog 71 #[.int .i64 k] w fun e C=>e=.returned (.string (V8 k))∧Below w.heap.size w C:=by
 cases i:zU k 1 19 with
 | false=>
  have j:V8 k=⟨#[]⟩:=by simp[V8,i]
  have o:=za j;clear j;have R:(!zU k 1 19)=true:=by simp[i]
  clear i;have J:=Loc.start w;go_enter func71,ntmps71;go_wp2_with (first|(with_reducible refine lbs J ?_;clear J;intro t I J)|(go_at_call 54;refine cg0 (qi _ _ _ _) ?_;dsimp only));refine rt1 ?_;exact⟨by rw[o.out];rfl,J.below⟩
 | true=>
  have J:=Loc.start w;rcases yf i with rfl|rfl|rfl|rfl|rfl|rfl|rfl|rfl|rfl|rfl|rfl|rfl|rfl|rfl|rfl|rfl|rfl|rfl|rfl
  all_goals
   go_enter func71,ntmps71;go_wp2_with (first|(with_reducible first|refine lld J ?_|(refine lbs J ?_;clear J;intro t I J))|(go_at_call 54;refine cg0 (qi _ _ _ _) ?_;dsimp only));refine rt1 ?_;exact⟨by rfl,J.below⟩
theorem Zk (n a b:Int) (w:World):
  Calls prog 85 #[.int .i64 n,.int .i64 a,.int .i64 b] w fun e i=>e=.returned (.bool (zU n a b))∧w=i:=by
 by_cases j:a<=n
 all_goals
  go_enter func85,ntmps85;go_wp2;go_ret;exact⟨by simp[zU];omega,rfl⟩
def Jb (p:Pg) (c x:Int):Bool:=if c=118∨c=97∨c=98 then zU x 0 (p.vars - 1) else if c=102 then zU x 0 (p.fields - 1) else if c=103 then zU x 0 p.n else true
def ZR (c x:Int):Bool:=if c=110 then zU x (-2147483648) 2147483647 else if c=116 then zU x 0 1 else if c=105 then zU x 0 1000000 else true
def zbc (c:Int):Nat:=if c=118 then 1 else if c=97 then 2 else if c=98 then 3 else if c=103 then 5 else 4
theorem zew (p:Pg) (c x:Int) (v1:1<=p.vars) (o:p.vars<=8) (f1:0<=p.fields) (f2:p.fields<=3) (w:World):
  Calls prog 133 #[p.v,.int .u8 c,.int .i64 x] w fun e i=>e=.returned (.bool (Jb p c x))∧Below w.heap.size w i:=by
 have J:=Loc.start w;go_enter func133,ntmps133;go_wp2_with (first|(with_reducible first|refine lld J ?_|(refine lbx J ?_;clear J;intro j t J))|(go_at_call 85;refine cg0 (Zk _ _ _ _) ?_;dsimp only))
 all_goals
  refine rt1 ?_;exact⟨by simp_all [Jb],J.below⟩
theorem zf6 (c x:Int) (w:World):
  Calls prog 134 #[.int .u8 c,.int .i64 x] w fun e i=>e=.returned (.bool (ZR c x))∧w=i:=by
 go_enter func134,ntmps134;go_wp2_with (go_at_call 85;refine cg0 (Zk _ _ _ _) ?_;dsimp only)
 all_goals
  go_ret;exact⟨by simp_all [ZR],rfl⟩
theorem V9 (b:Nat) (c:Int) (w:World):
  Calls prog 117 #[.pointer (some ⟨b,0,none⟩),.int .u8 c] w fun e i=>e=.returned (.pointer (some ⟨b,zbc c,none⟩))∧w=i:=by
 go_enter func117,ntmps117;go_wp2
 all_goals
  go_ret;exact⟨by simp_all [zbc],rfl⟩
theorem GY:zdJ prog 159 3 162:=⟨by kernel_rfl,by kernel_rfl⟩
def yg:List (Int × Value):=[(1,.agg #[.string ⟨#[110,117,109,98,101,114]⟩,.string ⟨#[118,110]⟩]),(2,.agg #[.string ⟨#[116,114,117,116,104]⟩,.string ⟨#[118,116]⟩]),(3,.agg #[.string ⟨#[110,117,108,108]⟩,.string ⟨#[118]⟩]),(4,.agg #[.string ⟨#[99,111,112,121]⟩,.string ⟨#[118,97]⟩]),(5,.agg #[.string ⟨#[97,100,100]⟩,.string ⟨#[118,97,98]⟩]),(6,.agg #[.string ⟨#[115,117,98]⟩,.string ⟨#[118,97,98]⟩]),(7,.agg #[.string ⟨#[109,117,108]⟩,.string ⟨#[118,97,98]⟩]),(8,.agg #[.string ⟨#[108,101,115,115]⟩,.string ⟨#[118,97,98]⟩]),(9,.agg #[.string ⟨#[115,97,109,101]⟩,.string ⟨#[118,97,98]⟩]),(10,.agg #[.string ⟨#[110,111,116]⟩,.string ⟨#[118,97]⟩]),(11,.agg #[.string ⟨#[110,101,119]⟩,.string ⟨#[118]⟩]),(12,.agg #[.string ⟨#[103,101,116]⟩,.string ⟨#[118,97,102]⟩]),(13,.agg #[.string ⟨#[112,117,116]⟩,.string ⟨#[97,102,98]⟩]),(14,.agg #[.string ⟨#[105,110,112,117,116]⟩,.string ⟨#[118,105]⟩]),(15,.agg #[.string ⟨#[105,102]⟩,.string ⟨#[97,103]⟩]),(16,.agg #[.string ⟨#[103,111,116,111]⟩,.string ⟨#[103]⟩]),(17,.agg #[.string ⟨#[101,120,112,101,99,116]⟩,.string ⟨#[97]⟩]),(18,.agg #[.string ⟨#[112,114,105,110,116]⟩,.string ⟨#[97]⟩]),(19,.agg #[.string ⟨#[101,110,100]⟩,.string ⟨#[]⟩])]
section
variable {P : Program} {ops : Array Oper} {Q : Exit -> Act -> World -> Prop} {a : Act} {w0 w : World} {rest : List Oper} {d : Option Tmp} {ty : TypeId} {pos : String} {after : Array Edge}
theorem zf7 {T:TypeId}(h:∀ b w',w.heap.size<=b->Below w.heap.size w w'->w'.heap[b]? = some (.map (jF []).toArray ([]:List (Int × Value)).length)->wpList P ops Q rest (a.put d (.map (some b))) w'):
  wpList P ops Q (⟨d,.makeMap T none,ty,pos,after,none⟩::rest) a w:=
 qp (o:=⟨d,.makeMap T none,ty,pos,after,none⟩) (w':=w.alloc (.map #[] 0)) rfl (by simp[execOp,Instr.makeMap,newObj];rfl)
  (h _ _ (Nat.le_refl _) ((Below.refl _ _).alloc (Nat.le_refl _) _) (by show (w.heap.push _)[w.heap.size]? = _;simp[jF]))
theorem zcI {T K V:TypeId}(hT:zdJ P T K V) {B b:Nat}{l:List (Int × Value)}{m k v:Operand}{kk:Int}{j:Value}(aa:B<=b) (i:Below B w0 w) (t:w.heap[b]? = some (.map (jF l).toArray l.length))
  (U:a.eval m=.map (some b)) (hk:a.eval k=.int .i64 kk) (hv:a.eval v=j) (hn:l.all (fun x=>!(kk==x.1))=true)
  (h:∀ w',Below B w0 w'->w'.heap[b]? = some (.map (jF (l++[(kk,j)])).toArray (l++[(kk,j)]).length)->wpList P ops Q rest (a.put d undef) w'):
  wpList P ops Q (⟨d,.insert T m k v,ty,pos,after,none⟩::rest) a w:=by
 have R:=zz t;refine Jm (o:=⟨d,.insert T m k v,ty,pos,after,none⟩) (w':={ w with heap:=w.heap.setIfInBounds b (.map (jF (l++[(kk,j)])).toArray (l++[(kk,j)]).length) }) rfl ?_ (h _ ⟨i.os,i.tape,i.output,by simpa using i.size,fun C I=>?_⟩ (by simp[R]))
 ·simp only[execOp,U,hk,hv]
  rw[Sem.run_bind,zbM hT t hn];rfl
 ·rw[<- i.block C I]
  have:b≠C:=by omega
  simp[Array.getElem?_setIfInBounds,this]
end
theorem Xa (w:World):
  Calls prog 116 #[] w fun e t=>∃ b,e=.returned (.map (some b))∧w.heap.size<=b∧t.heap[b]? = some (.map (jF yg).toArray yg.length)∧Below w.heap.size w t:=by
 go_enter func116,ntmps116;go_wp2_with (first|((with_reducible refine' zf7 ?_);intro b C o j i)|((with_reducible refine' zcI GY o j i rfl rfl rfl ?_ ?_);(case refine'_1=>rfl);clear i j;intro C j i;simp only[aX]at i));go_ret;exact⟨b,rfl,o,i,j⟩
structure jG (P:Program) (T:TypeId) (es:Nat) (w:World) (p:Option Addr) (n:Nat) (f:Nat->Value):Prop where
 ex:∃ b o:Nat,(0<n->p=some ⟨b,o,none⟩)∧∀ k,k<n->zd P T w b (o+k*es) (f k)
theorem zd.grow {P:Program}{T:TypeId}{w w' : World}{b off:Nat}{v:Value}(h:zd P T w b off v) (hb:Below w.heap.size w w'):zd P T w' b off v:=
 ⟨Nat.lt_of_lt_of_le h.lt hb.size,fun o j=>h.run o (fun i=>(j i).trans (hb.cell (p:=⟨b,i,none⟩) h.lt))⟩
theorem jG.grow {P:Program}{T:TypeId}{es:Nat}{w w' : World}{p:Option Addr}{n:Nat}{f:Nat->Value}(h:jG P T es w p n f) (hb:Below w.heap.size w w'):jG P T es w' p n f:=by
 obtain⟨b,t,i,j⟩:=h.ex;exact⟨b,t,i,fun k o=>(j k o).grow hb⟩
structure zZ (w:World) (es:Nat) (p:Option Addr) (n:Nat) (cells:Nat->List Value):Prop where
 fz:∀ b o,p=some ⟨b,o,none⟩->∀ i,i<n*es->w.frozen? ⟨b,o+i,none⟩=false
 ex:∃ b o:Nat,(0<n->p=some ⟨b,o,none⟩)∧∀ k,k<n->b<w.heap.size∧∀ j v,(cells k)[j]? = some v->w.cell? ⟨b,o+k*es+j,none⟩=some v
theorem yo {w:World}{es n:Nat}{p:Option Addr}(h:n=0):∀ b o,p=some ⟨b,o,none⟩->∀ i,i<n*es->w.frozen? ⟨b,o+i,none⟩=false:=by
 subst h;intro _ _ _ i j;rw[Nat.zero_mul]at j;exact absurd j (Nat.not_lt_zero i)
theorem ZS {w:World}{es n g o' : Nat}{p:Option Addr}{cs:Array Value}{T:TypeId}(C:p=some ⟨g,o',none⟩) (t:w.heap[g]? = some (.cells cs T (0,0))):∀ b j,p=some ⟨b,j,none⟩->∀ i,i<n*es->w.frozen? ⟨b,j+i,none⟩=false:=by
 intro b j o i _;rw[C]at o;cases o;simp[World.frozen?,t]
theorem GZ {n es i:Nat}(h:i<n*es):0<n:=by
 rcases Nat.eq_zero_or_pos n with e|e
 ·rw[e,Nat.zero_mul]at h;exact absurd h (Nat.not_lt_zero i)
 ·exact e
theorem zZ.grow {w w' : World}{es:Nat}{p:Option Addr}{n:Nat}{cells:Nat->List Value}(h:zZ w es p n cells) (hb:Below w.heap.size w w'):zZ w' es p n cells:=by
 obtain⟨b,U,C,i⟩:=h.ex;refine⟨fun j aa I R o=>?_,b,U,C,fun k t=>⟨Nat.lt_of_lt_of_le (i k t).1 hb.size,fun T v ab=>(hb.cell (p:=⟨b,U+k*es+T,none⟩) (i k t).1).trans ((i k t).2 T v ab)⟩⟩;have e:=(C (GZ o)).symm.trans I;simp only[Option.some.injEq,Addr.mk.injEq]at e;rw[hb.frozen (p:=⟨j,aa + R,none⟩) (by show j < _;rw[<- e.1];exact(i 0 (GZ o)).1)];exact h.fz j aa I R o
theorem zZ.agg {P:Program}{T:TypeId}{w:World}{es:Nat}{p:Option Addr}{n:Nat}{cells:Nat->List Value}(hT:Ye P T es) (h:zZ w es p n cells) (t:∀ k,(cells k).length=es):jG P T es w p n (fun k=>.agg (cells k).toArray):=by
 obtain⟨b,C,o,i⟩:=h.ex;exact⟨b,C,o,fun k j=>zd.agg hT (i k j).1 (i k j).2 (t k)⟩
def qa (q:Nat->Bool) (n:Nat):Bool:=(List.range n).any q
theorem qg {q:Nat->Bool}{n k:Nat}(hk:k<n) (h:q k=true):qa q n=true:=by
 unfold qa;rw[List.any_eq_true];exact⟨k,List.mem_range.2 hk,h⟩
theorem qu {q:Nat->Bool}{n:Nat}(h:∀ k,k<n->q k=false):qa q n=false:=by
 unfold qa;rw[List.any_eq_false];intro k i;simp[h k (List.mem_range.1 i)]
structure zcJ (P:Program) (K:FuncId) (c:Value) (w:World) (n:Nat) (f:Nat->Value) (q:Nat->Bool):Prop where
 enter:∀ args w,(callFunc K args).run P w=.ok (.enter K args) w
 run:∀ k,k<n->∀ w',Below w.heap.size w w'->Calls P K #[f k,c] w' fun e w''=>e=.returned (.bool (q k))∧Below w'.heap.size w' w''
theorem KO {q:Nat->Bool}{n:Nat}:qa q n=true↔∃ k,k<n∧q k=true:=by
 unfold qa;rw[List.any_eq_true];exact⟨fun ⟨k,i,j⟩=>⟨k,List.mem_range.1 i,j⟩,fun ⟨k,i,j⟩=>⟨k,List.mem_range.2 i,j⟩⟩
structure Vl where
 kind:Int
 n:Int
abbrev Vl.cells (v:Vl):List Value:=[.int .i64 v.kind,.int .i64 v.n]
abbrev Vl.v (v:Vl):Value:=.agg #[.int .i64 v.kind,.int .i64 v.n]
structure Sl where
 p:Option Addr
 n:Nat
 cap:Nat
abbrev Sl.v (s:Sl):Value:=.slice s.p s.n s.cap
abbrev zi:Sl:=⟨none,0,0⟩
structure zk (w:World) (s:Sl) (l:List Int):Prop where
 n:s.n=l.length
 m:s.n<=9223372036854775807
 at' : zZ w 1 s.p s.n (fun k=>[.int .i64 (l.getD k 0)])
theorem zk.grow {w w' : World}{s:Sl}{l:List Int}(h:zk w s l) (hb:Below w.heap.size w w'):zk w' s l:=⟨h.n,h.m,h.at'.grow hb⟩
theorem zk.nil (w:World):zk w zi []:=⟨rfl,by decide,⟨yo rfl,0,0,fun h=>absurd h (Nat.lt_irrefl 0),fun k i=>absurd i (Nat.not_lt_zero k)⟩⟩
theorem zk.reads {P:Program}{T:TypeId}{w:World}{s:Sl}{l:List Int}(hT:jy P T) (h:zk w s l):∃ b i:Nat,(0<s.n->s.p=some ⟨b,i,none⟩)∧∀ k,k<s.n->zd P T w b (i+k) (.int .i64 (l.getD k 0)):=by
 obtain⟨b,i,t,j⟩:=h.at'.ex;exact⟨b,i,t,fun k o=>by
  have:=zd.cell (P:=P) hT (j k o).1 ((j k o).2 0 _ rfl);simpa using this⟩
theorem zB.ints {w:World}{B E:Nat}{p:Option Addr}{n cap:Nat}{R:List zg}{l:List Int}(h:zB E 1 p n cap (l.map (fun x=>Value.int .i64 x)) R) (ae:Own B w R):zk w ⟨p,n,cap⟩ l:=by
 obtain⟨aa,ab⟩:=h;have T:n=l.length:=by simpa using aa.symm
 rcases ab with⟨h3,C,_⟩|⟨g,cs,U,ac,h3,C,ai,af⟩
 ·exact⟨T,by show n<=_;omega,⟨yo h3,0,0,fun h=>absurd h (by show ¬ 0<n;omega),fun k t=>absurd t (by show ¬ k<n;omega)⟩⟩
 ·subst ac
  have o:=(ae.at' _ List.mem_cons_self).2;refine⟨T,Nat.le_trans h3 (Nat.le_trans C (by decide)),⟨ZS U o,g,0,fun _=>U,fun k t=>⟨zz o,fun j v I=>?_⟩⟩⟩;have aj : k<n:=t;have ad:j=0:=by
   have:=(List.getElem?_eq_some_iff.1 I).1;simpa using this
  subst ad;have ag:v=.int .i64 (l.getD k 0):=by simpa using I.symm
  subst ag;have i:(cs.take (n*1))[k]? = some (.int .i64 (l.getD k 0)):=by
   rw[af,List.getElem?_map,List.getD_eq_getElem?_getD,List.getElem?_eq_getElem (by omega)];simp
  rw[List.getElem?_take]at i;split at i
  ·simp[World.cell?,o,i]
  ·cases i
theorem jr {α:Type}{f:α->List Value}{es:Nat}(hf:∀ x,(f x).length=es):∀ l:List α,(l.flatMap f).length=l.length*es
 | []=>by simp
 | x::l=>by rw[List.flatMap_cons,List.length_append,hf,jr hf l,List.length_cons,Nat.add_mul];omega
theorem J1 {α:Type}{f:α->List Value}{es:Nat}(hf:∀ x,(f x).length=es) (d:α):∀ (l:List α) (k i:Nat),k<l.length->i<es->(l.flatMap f)[k*es+i]? = (f (l.getD k d))[i]?
 | [],k,i,hk,_=>absurd hk (by simp)
 | x::l,0,i,_,hj=>by
  rw[List.flatMap_cons,List.getElem?_append_left (by rw[hf];omega)];simp
 | x::l,k+1,i,hk,hj=>by
  have e:(k+1)*es+i - es=k*es+i:=by rw[Nat.add_mul];omega
  rw[List.flatMap_cons,List.getElem?_append_right (by rw[hf,Nat.add_mul];omega),hf,e,J1 hf d l k i (by simpa using hk) hj];simp
theorem zcK {α:Type}{f:α->List Value}{es:Nat}(hf:∀ x,(f x).length=es) (l:List α) {i:Nat}{u:Value}(h:(l.flatMap f)[i]? = some u):∃ k C,k<l.length∧C<es∧i=k*es+C:=by
 have o:=(List.getElem?_eq_some_iff.1 h).1;rw[jr hf]at o;have t:0<es:=by
  rcases Nat.eq_zero_or_pos es with j|j
  ·subst j;simp at o
  ·exact j
 refine⟨i / es,i % es,(Nat.div_lt_iff_lt_mul t).2 o,Nat.mod_lt _ t,?_⟩;rw[Nat.mul_comm];exact(Nat.div_add_mod i es).symm
theorem zZ.news {w:World}{es n:Nat}{α:Type}{f:α->List Value}(hf:∀ x,(f x).length=es) {d:α}{l:List α}{p:Option Addr}(h:zZ w es p n (fun k=>f (l.getD k d))) (hn:n=l.length):
  0<n->∃ o,p=some o∧∀ j u,(l.flatMap f)[j]? = some u->w.cell? (o.add j)=some u:=by
 intro T;obtain⟨b,U,t,C⟩:=h.ex;refine⟨⟨b,U,none⟩,t T,fun i u hi=>?_⟩;obtain⟨k,j,R,I,rfl⟩:=zcK hf l hi;rw[J1 hf d l k j R I]at hi;rw[zG,<- Nat.add_assoc];exact(C k (by omega)).2 j u hi
theorem zB.listC {w:World}{B E es:Nat}{p:Option Addr}{n cap:Nat}{R:List zg}{α:Type}{f:α->List Value}(hf:∀ x,(f x).length=es) (d:α) {l:List α}(h:zB E es p n cap (l.flatMap f) R) (ab:0<es) (ae:Own B w R):
  n=l.length∧zZ w es p n (fun k=>f (l.getD k d)):=by
 obtain⟨o,T⟩:=h;rw[jr hf]at o;have ad:n=l.length:=(Nat.eq_of_mul_eq_mul_right ab o).symm;refine⟨ad,?_⟩;rcases T with⟨U,_,_⟩|⟨g,cs,C,aa,_,_,ag,af⟩
 ·exact⟨yo U,⟨0,0,fun h=>absurd h (by omega),fun k t=>absurd t (by omega)⟩⟩
 ·subst aa
  have j:=(ae.at' _ List.mem_cons_self).2;refine⟨ZS C j,⟨g,0,fun _=>C,fun k t=>⟨zz j,fun I v i=>?_⟩⟩⟩;have ac:I<es:=by rw[<- hf (l.getD k d)];exact(List.getElem?_eq_some_iff.1 i).1
  rw[<- J1 hf d l k I (by omega) ac,<- af,List.getElem?_take]at i;split at i
  ·simp[World.cell?,j,i]
  ·cases i
theorem zB.max {E es:Nat}{p:Option Addr}{n cap:Nat}{xs:List Value}{R:List zg}(h:zB E es p n cap xs R):n<=9223372036854775807:=by
 rcases h.2 with⟨i,_,_⟩|⟨g,cs,_,_,i,j,_⟩
 ·omega
 ·exact Nat.le_trans i (Nat.le_trans j (by decide))
theorem zV {α:Type}(n:Nat) (f:Nat->α) (d:α) (k:Nat) (hk:k<n):((List.range n).map f).getD k d=f k:=by
 simp[List.getD_eq_getElem?_getD,List.getElem?_map,List.getElem?_range hk]
theorem zZ.congr {w:World}{es:Nat}{p:Option Addr}{n:Nat}{c i : Nat->List Value}(h:zZ w es p n c) (e:∀ k,k<n->i k=c k):zZ w es p n i:=by
 obtain⟨b,C,o,t⟩:=h.ex;exact⟨h.fz,b,C,o,fun k j=>by rw[e k j];exact t k j⟩
theorem zbd {cs vs:List Value}{off:Nat}(h:off+vs.length<=cs.length) (i:Nat):(zj cs off vs)[i]? = if i<off then cs[i]? else if i<off+vs.length then vs[i - off]? else cs[i]? :=by
 unfold zj;by_cases j:i<off
 ·rw[if_pos j,List.getElem?_append_left (by rw[List.length_take];omega),List.getElem?_take,if_pos j]
 ·rw[if_neg j,List.getElem?_append_right (by rw[List.length_take];omega),List.length_take,Nat.min_eq_left (by omega)]
  by_cases o:i<off+vs.length
  ·rw[if_pos o,List.getElem?_append_left (by omega)]
  ·rw[if_neg o,List.getElem?_append_right (by omega),List.getElem?_drop]
   congr 1;omega
theorem zbe {cs vs:List Value}{off:Nat}(h:off+vs.length<=cs.length):(zj cs off vs).length=cs.length:=by
 unfold zj;simp only[List.length_append,List.length_take,List.length_drop];omega
section
variable {E es g n cap : Nat} {cs : List Value} {p : Option Addr} {α : Type} {f : α -> List Value} {d : α} {l : List α} {k : Nat}
theorem zB.block {xs:List Value}{R:List zg}(h:zB E es p n cap xs R) (hn:0<n):∃ g cs,p=some ⟨g,0,none⟩∧R=[(g,E,cs)]∧cs.take (n*es)=xs∧cs.length=cap*es:=by
 rcases h.2 with⟨i,_⟩|⟨g,cs,i,j,_,_,o,t⟩
 ·omega
 ·exact⟨g,cs,i,j,t,o⟩
theorem zB.same {xs:List Value}(h:zB E es p n cap xs [(g,E,cs)]):p=some ⟨g,0,none⟩∧n<=cap∧cap<=maxLen∧cs.length=cap*es∧cs.take (n*es)=xs:=by
 rcases h.2 with⟨_,_,i⟩|⟨T,R,o,j,i,t,C,I⟩
 ·cases i
 ·simp only[List.cons.injEq,Prod.mk.injEq,and_true,true_and]at j
  obtain⟨rfl,rfl⟩:=j;exact⟨o,i,t,C,I⟩
theorem zB.elem (hf:∀ x,(f x).length=es) (d:α) (h:zB E es p n cap (l.flatMap f) [(g,E,cs)]) (hk:k<n):(cs.drop (k*es)).take es=f (l.getD k d):=by
 obtain⟨_,t,_,R,C⟩:=h.same;have j:=h.1;rw[jr hf]at j;have U:k*es+es<=n*es:=by rw[show k*es+es=(k+1)*es by rw[Nat.add_mul,Nat.one_mul]];exact Nat.mul_le_mul_right _ hk
 have T:n*es<=cap*es:=Nat.mul_le_mul_right _ t;apply List.ext_getElem?;intro o;by_cases i:o<es
 ·have I:0<es:=by omega
  have aa:l.length=n:=Nat.eq_of_mul_eq_mul_right I j;rw[List.getElem?_take,if_pos i,List.getElem?_drop,<- J1 hf d l k o (by omega) i,<- C,List.getElem?_take,if_pos (by omega)]
 ·rw[List.getElem?_eq_none (by rw[List.length_take,List.length_drop];omega),List.getElem?_eq_none (by rw[hf];omega)]
theorem zB.put (hf:∀ x,(f x).length=es) (d:α) (h:zB E es p n cap (l.flatMap f) [(g,E,cs)]) (hk:k<n) (v:α):zB E es p n cap ((l.set k v).flatMap f) [(g,E,zj cs (k*es) (f v))]:=by
 obtain⟨af,aa,ag,ab,ah⟩:=h.same;have C:=h.1;rw[jr hf]at C;have an:k*es+es<=n*es:=by rw[show k*es+es=(k+1)*es by rw[Nat.add_mul,Nat.one_mul]];exact Nat.mul_le_mul_right _ hk
 have al:n*es<=cap*es:=Nat.mul_le_mul_right _ aa;have ae:k*es+(f v).length<=cs.length:=by rw[hf,ab];omega
 refine⟨by rw[jr hf,List.length_set,C],.inr ⟨g,_,af,rfl,aa,ag,by rw[zbe ae,ab],?_⟩⟩;apply List.ext_getElem?;intro o;by_cases t:o<n*es
 ·have T:0<es:=by
   rcases Nat.eq_zero_or_pos es with R|R
   ·subst R;simp at t
   ·exact R
  have aj:l.length=n:=Nat.eq_of_mul_eq_mul_right T C;obtain⟨i,j,U,ac,rfl⟩:∃ i j,i < l.length∧j<es∧o=i * es+j:=
   ⟨o / es,o % es,by rw[aj];exact(Nat.div_lt_iff_lt_mul T).2 t,Nat.mod_lt _ T,by rw[Nat.mul_comm];exact(Nat.div_add_mod o es).symm⟩
  rw[List.getElem?_take,if_pos t,zbd ae,hf,J1 hf d (l.set k v) i j (by rw[List.length_set];exact U) ac];by_cases ad:i=k
  ·subst ad
   rw[if_neg (by omega),if_pos (by omega)];simp[List.getD_eq_getElem?_getD,U,Nat.add_sub_cancel_left]
  ·have ak:i < k∨k<i:=by omega
   have hold:cs[i * es+j]? = (f (l.getD i d))[j]? :=by
    rw[<- J1 hf d l i j U ac,<- ah,List.getElem?_take,if_pos t]
   have ai:(l.set k v).getD i d=l.getD i d:=by
    simp[List.getD_eq_getElem?_getD,List.getElem?_set,Ne.symm ad]
   rw[ai,<- hold];rcases ak with I | I
   ·have:i * es+es<=k*es:=by rw[show i * es+es=(i + 1)*es by rw[Nat.add_mul,Nat.one_mul]];exact Nat.mul_le_mul_right _ I
    rw[if_pos (by omega)]
   ·have:k*es+es<=i * es:=by rw[show k*es+es=(k+1)*es by rw[Nat.add_mul,Nat.one_mul]];exact Nat.mul_le_mul_right _ I
    rw[if_neg (by omega),if_neg (by omega)]
 ·rw[List.getElem?_eq_none (by rw[List.length_take];omega),List.getElem?_eq_none (by rw[jr hf,List.length_set,C];omega)]
theorem zB.flatlen (hf:∀ x,(f x).length=es) (j:0<es) {R:List zg}(h:zB E es p n cap (l.flatMap f) R):n=l.length:=by
 have i:=h.1;rw[jr hf]at i;exact(Nat.eq_of_mul_eq_mul_right j i).symm
end
end Go.Proofs.YtplcndmdkabmeaaGreatDoor
