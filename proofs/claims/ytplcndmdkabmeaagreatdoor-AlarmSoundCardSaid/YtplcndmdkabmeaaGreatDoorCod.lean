import Derived.Test.YtplcndmdkabmeaaGreatDoorLib
import Derived.Deep.Cut
set_option linter.unusedSimpArgs false
set_option linter.unusedVariables false
set_option maxRecDepth 100000
set_option maxHeartbeats 1600000
namespace Go.Proofs.YtplcndmdkabmeaaGreatDoor
open Go.RowKit
theorem tInt:CellT Tryz.prog 3:=⟨by kernel_rfl,by kernel_rfl⟩
theorem tBool:CellT Tryz.prog 4:=⟨by kernel_rfl,by kernel_rfl⟩
theorem tErrno:CellT Tryz.prog 22:=⟨by kernel_rfl,by kernel_rfl⟩
theorem tStr:CellT Tryz.prog 9:=⟨by kernel_rfl,by kernel_rfl⟩
theorem tInstrs:CellT Tryz.prog 25:=⟨by kernel_rfl,by kernel_rfl⟩
theorem tProg:AggT Tryz.prog 27 3:=⟨by kernel_rfl,by kernel_rfl⟩
theorem tInstr:AggT Tryz.prog 86 6:=⟨by kernel_rfl,by kernel_rfl⟩
theorem tShape:AggT Tryz.prog 162 2:=⟨by kernel_rfl,by kernel_rfl⟩
theorem zInstr:ZeroT Tryz.prog 86 [.int .i64 0,.int .i64 0,.int .i64 0,.int .i64 0,.int .i64 0,.int .i64 0]:=⟨by kernel_rfl⟩
theorem zShape:ZeroT Tryz.prog 162 [.string ⟨#[]⟩,.string ⟨#[]⟩]:=⟨by kernel_rfl⟩
theorem zProg:ZeroT Tryz.prog 27 [.int .i64 0,.int .i64 0,.slice none 0 0]:=⟨by kernel_rfl⟩
theorem sStrs:SliceT Tryz.prog 44 9 [.string ⟨#[]⟩]:=⟨by kernel_rfl,⟨by kernel_rfl⟩,⟨by kernel_rfl⟩⟩
theorem sInstrs:SliceT Tryz.prog 25 86 [.int .i64 0,.int .i64 0,.int .i64 0,.int .i64 0,.int .i64 0,.int .i64 0]:=⟨by kernel_rfl,⟨by kernel_rfl⟩,⟨by kernel_rfl⟩⟩
theorem tSpan:AggT Tryz.prog 106 3:=⟨by kernel_rfl,by kernel_rfl⟩
theorem zSpan:ZeroT Tryz.prog 106 [.bool false,.int .i64 0,.int .i64 0]:=⟨by kernel_rfl⟩
theorem sInts:SliceT Tryz.prog 37 3 [.int .i64 0]:=⟨by kernel_rfl,⟨by kernel_rfl⟩,⟨by kernel_rfl⟩⟩
theorem tInts:CellT Tryz.prog 37:=⟨by kernel_rfl,by kernel_rfl⟩
theorem bInt:BytesT Tryz.prog 3 8:=⟨by kernel_rfl⟩
theorem bStr:BytesT Tryz.prog 9 16:=⟨by kernel_rfl⟩
theorem tStrs:CellT Tryz.prog 44:=⟨by kernel_rfl,by kernel_rfl⟩
theorem tValues:CellT Tryz.prog 42:=⟨by kernel_rfl,by kernel_rfl⟩
theorem tThings:CellT Tryz.prog 43:=⟨by kernel_rfl,by kernel_rfl⟩
theorem tValue:AggT Tryz.prog 77 2:=⟨by kernel_rfl,by kernel_rfl⟩
theorem tThing:AggT Tryz.prog 79 2:=⟨by kernel_rfl,by kernel_rfl⟩
theorem tRun:AggT Tryz.prog 46 6:=⟨by kernel_rfl,by kernel_rfl⟩
theorem zValue:ZeroT Tryz.prog 77 [.int .i64 0,.int .i64 0]:=⟨by kernel_rfl⟩
theorem zThing:ZeroT Tryz.prog 79 [.int .i64 0,.slice none 0 0]:=⟨by kernel_rfl⟩
theorem zRun:ZeroT Tryz.prog 46 [.int .i64 0,.slice none 0 0,.slice none 0 0,.int .i64 0,.slice none 0 0,.int .i64 0]:=⟨by kernel_rfl⟩
theorem sValues:SliceT Tryz.prog 42 77 [.int .i64 0,.int .i64 0]:=⟨by kernel_rfl,⟨by kernel_rfl⟩,⟨by kernel_rfl⟩⟩
theorem sThings:SliceT Tryz.prog 43 79 [.int .i64 0,.slice none 0 0]:=⟨by kernel_rfl,⟨by kernel_rfl⟩,⟨by kernel_rfl⟩⟩
theorem bValue:BytesT Tryz.prog 77 16:=⟨by kernel_rfl⟩
theorem bThing:BytesT Tryz.prog 79 32:=⟨by kernel_rfl⟩
theorem tGuess:AggT Tryz.prog 108 7:=⟨by kernel_rfl,by kernel_rfl⟩
theorem zGuess:ZeroT Tryz.prog 108 [.bool false,.bool false,.int .i64 0,.int .i64 0,.bool false,.bool false,.slice none 0 0]:=⟨by kernel_rfl⟩
theorem bGuess:BytesT Tryz.prog 108 64:=⟨by kernel_rfl⟩
theorem tGuesses:CellT Tryz.prog 51:=⟨by kernel_rfl,by kernel_rfl⟩
theorem sGuesses:SliceT Tryz.prog 51 108 [.bool false,.bool false,.int .i64 0,.int .i64 0,.bool false,.bool false,.slice none 0 0]:=⟨by kernel_rfl,⟨by kernel_rfl⟩,⟨by kernel_rfl⟩⟩
theorem sBools:SliceT Tryz.prog 124 4 [.bool false]:=⟨by kernel_rfl,⟨by kernel_rfl⟩,⟨by kernel_rfl⟩⟩
theorem tBools:CellT Tryz.prog 124:=⟨by kernel_rfl,by kernel_rfl⟩
theorem tRows:CellT Tryz.prog 52:=⟨by kernel_rfl,by kernel_rfl⟩
theorem sRows:SliceT Tryz.prog 52 51 [.slice none 0 0]:=⟨by kernel_rfl,⟨by kernel_rfl⟩,⟨by kernel_rfl⟩⟩
theorem bRow:BytesT Tryz.prog 51 24:=⟨by kernel_rfl⟩
theorem tPic:AggT Tryz.prog 54 3:=⟨by kernel_rfl,by kernel_rfl⟩
theorem zPic:ZeroT Tryz.prog 54 [.bool false,.slice none 0 0,.slice none 0 0]:=⟨by kernel_rfl⟩
theorem tPics:CellT Tryz.prog 58:=⟨by kernel_rfl,by kernel_rfl⟩
theorem sPics:SliceT Tryz.prog 58 54 [.bool false,.slice none 0 0,.slice none 0 0]:=⟨by kernel_rfl,⟨by kernel_rfl⟩,⟨by kernel_rfl⟩⟩
theorem tEdge:AggT Tryz.prog 75 4:=⟨by kernel_rfl,by kernel_rfl⟩
theorem zEdge:ZeroT Tryz.prog 75 [.int .i64 0,.bool false,.slice none 0 0,.slice none 0 0]:=⟨by kernel_rfl⟩
theorem bEdge:BytesT Tryz.prog 75 64:=⟨by kernel_rfl⟩
theorem tEdges:CellT Tryz.prog 63:=⟨by kernel_rfl,by kernel_rfl⟩
theorem sEdges:SliceT Tryz.prog 63 75 [.int .i64 0,.bool false,.slice none 0 0,.slice none 0 0]:=⟨by kernel_rfl,⟨by kernel_rfl⟩,⟨by kernel_rfl⟩⟩
theorem tAlarm:AggT Tryz.prog 35 2:=⟨by kernel_rfl,by kernel_rfl⟩
theorem zAlarm:ZeroT Tryz.prog 35 [.int .i64 0,.int .i64 0]:=⟨by kernel_rfl⟩
theorem bAlarm:BytesT Tryz.prog 35 16:=⟨by kernel_rfl⟩
theorem tAlarms:CellT Tryz.prog 32:=⟨by kernel_rfl,by kernel_rfl⟩
theorem sAlarms:SliceT Tryz.prog 32 35 [.int .i64 0,.int .i64 0]:=⟨by kernel_rfl,⟨by kernel_rfl⟩,⟨by kernel_rfl⟩⟩
structure Ins where
 kind:Int
 to:Int
 a:Int
 b:Int
 n:Int
 goto:Int
abbrev Ins.cells (i:Ins):List Value:=[.int .i64 i.kind,.int .i64 i.to,.int .i64 i.a,.int .i64 i.b,.int .i64 i.n,.int .i64 i.goto]
abbrev Ins.v (i:Ins):Value:=.agg #[.int .i64 i.kind,.int .i64 i.to,.int .i64 i.a,.int .i64 i.b,.int .i64 i.n,.int .i64 i.goto]
structure Pg where
 vars:Int
 fields:Int
 pc:Option Addr
 n:Nat
 cap:Nat
abbrev Pg.v (p:Pg):Value:=.agg #[.int .i64 p.vars,.int .i64 p.fields,.slice p.pc p.n p.cap]
def betw (n a b:Int):Bool:=decide (a≤n)&&decide (n≤b)
def nTo (k:Int):Bool:=betw k 1 12 || k==14
def nA (k:Int):Bool:=betw k 4 10 || k==12 || k==13 || k==15 || k==17 || k==18
def nB (k:Int):Bool:=betw k 5 9 || k==13
def nN (k:Int):Bool:=k==1 || k==2 || betw k 12 14
def nGoto (k:Int):Bool:=k==15 || k==16
def noneB (p:Pg) (i:Ins):Bool:=nTo i.kind && !betw i.to 0 (p.vars - 1) || nA i.kind && !betw i.a 0 (p.vars - 1) || nB i.kind && !betw i.b 0 (p.vars - 1) || (i.kind==12 || i.kind==13) && !betw i.n 0 (p.fields - 1) || nGoto i.kind && !betw i.goto 0 p.n
def rangeB (i:Ins):Bool:=i.kind==1 && !betw i.n (-2147483648) 2147483647 || i.kind==2 && !betw i.n 0 1 || i.kind==14 && !betw i.n 0 1000000
def formB (i:Ins):Bool:=!nTo i.kind&&i.to != 0 || !nA i.kind&&i.a != 0 || !nB i.kind&&i.b != 0 || !nN i.kind&&i.n != 0 || !nGoto i.kind&&i.goto != 0
def checkOne (p:Pg) (i:Ins):Int:=if !betw i.kind 1 19 then 6 else if noneB p i then 5 else if rangeB i then 3 else if formB i then 1 else 0
def wordL:List (List UInt8):=[[],[110,117,109,98,101,114],[116,114,117,116,104],[110,117,108,108],[99,111,112,121],[97,100,100],[115,117,98],[109,117,108],[108,101,115,115],[115,97,109,101],[110,111,116],[110,101,119],[103,101,116],[112,117,116],[105,110,112,117,116],[105,102],[103,111,116,111],[101,120,112,101,99,116],[112,114,105,110,116],[101,110,100]]
def wordS (k:Int):ByteArray:=if betw k 1 19 then ⟨(wordL.getD k.toNat []).toArray⟩ else ⟨#[]⟩
theorem kinds_of {k:Int}(h:betw k 1 19=true):k=1∨k=2∨k=3∨k=4∨k=5∨k=6∨k=7∨k=8∨k=9∨k=10∨k=11∨k=12∨k=13∨k=14∨k=15∨k=16∨k=17∨k=18∨k=19:=by
 simp[betw]at h;omega
theorem within_any (n a b:Int) (w:World):
  Calls Tryz.prog 85 #[.int .i64 n,.int .i64 a,.int .i64 b] w fun e w'=>e=.returned (.bool (betw n a b))∧w=w':=by
 by_cases h1:a≤n
 all_goals
  go_enter Tryz.func85,Tryz.ntmps85
  go_wp2
  go_ret
  exact⟨by simp[betw];omega,rfl⟩
def namedB (p:Pg) (c x:Int):Bool:=if c=118∨c=97∨c=98 then betw x 0 (p.vars - 1) else if c=102 then betw x 0 (p.fields - 1) else if c=103 then betw x 0 p.n else true
def fineB (c x:Int):Bool:=if c=110 then betw x (-2147483648) 2147483647 else if c=116 then betw x 0 1 else if c=105 then betw x 0 1000000 else true
def offC (c:Int):Nat:=if c=118 then 1 else if c=97 then 2 else if c=98 then 3 else if c=103 then 5 else 4
theorem named_any (p:Pg) (c x:Int) (v1:1≤p.vars) (v2:p.vars≤8) (f1:0≤p.fields) (f2:p.fields≤3) (w:World):
  Calls Tryz.prog 133 #[p.v,.int .u8 c,.int .i64 x] w fun e w'=>e=.returned (.bool (namedB p c x))∧Below w.heap.size w w':=by
 have hL:=Loc.start w
 go_enter Tryz.func133,Tryz.ntmps133
 go_wp2_with (first|(with_reducible first|refine lld hL ?_|((first|refine lbx hL ?_|refine lal hL ?_|refine lbs hL ?_);clear hL;intro bl w1 hL)|(refine lst' hL ?_;clear hL;intro w1 hL))|(go_at_call 85;refine(within_any _ _ _ _).mono ?_;rintro e w' ⟨rfl,rfl⟩;dsimp only))
 all_goals
  (try simp only[Exit.inBlock,Exit.then]);refine rt1 ?_
  exact⟨by simp_all [namedB],hL.below⟩
theorem fine_any (c x:Int) (w:World):
  Calls Tryz.prog 134 #[.int .u8 c,.int .i64 x] w fun e w'=>e=.returned (.bool (fineB c x))∧w=w':=by
 go_enter Tryz.func134,Tryz.ntmps134
 go_wp2_with (first|(go_at_call 85;refine(within_any _ _ _ _).mono ?_;rintro e w' ⟨rfl,rfl⟩;dsimp only))
 all_goals
  go_ret
  exact⟨by simp_all [fineB],rfl⟩
theorem part_any (b:Nat) (c:Int) (w:World):
  Calls Tryz.prog 117 #[.pointer (some ⟨b,0,none⟩),.int .u8 c] w fun e w'=>e=.returned (.pointer (some ⟨b,offC c,none⟩))∧w=w':=by
 go_enter Tryz.func117,Tryz.ntmps117
 go_wp2
 all_goals
  go_ret
  exact⟨by simp_all [offC],rfl⟩
theorem mShapes:MapT Tryz.prog 159 3 162:=⟨by kernel_rfl,by kernel_rfl⟩
def shapeL:List (Int × Value):=[(1,.agg #[.string ⟨#[110,117,109,98,101,114]⟩,.string ⟨#[118,110]⟩]),(2,.agg #[.string ⟨#[116,114,117,116,104]⟩,.string ⟨#[118,116]⟩]),(3,.agg #[.string ⟨#[110,117,108,108]⟩,.string ⟨#[118]⟩]),(4,.agg #[.string ⟨#[99,111,112,121]⟩,.string ⟨#[118,97]⟩]),(5,.agg #[.string ⟨#[97,100,100]⟩,.string ⟨#[118,97,98]⟩]),(6,.agg #[.string ⟨#[115,117,98]⟩,.string ⟨#[118,97,98]⟩]),(7,.agg #[.string ⟨#[109,117,108]⟩,.string ⟨#[118,97,98]⟩]),(8,.agg #[.string ⟨#[108,101,115,115]⟩,.string ⟨#[118,97,98]⟩]),(9,.agg #[.string ⟨#[115,97,109,101]⟩,.string ⟨#[118,97,98]⟩]),(10,.agg #[.string ⟨#[110,111,116]⟩,.string ⟨#[118,97]⟩]),(11,.agg #[.string ⟨#[110,101,119]⟩,.string ⟨#[118]⟩]),(12,.agg #[.string ⟨#[103,101,116]⟩,.string ⟨#[118,97,102]⟩]),(13,.agg #[.string ⟨#[112,117,116]⟩,.string ⟨#[97,102,98]⟩]),(14,.agg #[.string ⟨#[105,110,112,117,116]⟩,.string ⟨#[118,105]⟩]),(15,.agg #[.string ⟨#[105,102]⟩,.string ⟨#[97,103]⟩]),(16,.agg #[.string ⟨#[103,111,116,111]⟩,.string ⟨#[103]⟩]),(17,.agg #[.string ⟨#[101,120,112,101,99,116]⟩,.string ⟨#[97]⟩]),(18,.agg #[.string ⟨#[112,114,105,110,116]⟩,.string ⟨#[97]⟩]),(19,.agg #[.string ⟨#[101,110,100]⟩,.string ⟨#[]⟩])]
section
variable {P : Program} {ops : Array Oper} {Q : Exit → Act → World → Prop} {a : Act} {w0 w : World} {rest : List Oper} {d : Option Tmp} {ty : TypeId} {pos : String} {after : Array Edge}
theorem map_make {T:TypeId}(h:∀ b w',w.heap.size≤b→Below w.heap.size w w'→w'.heap[b]? = some (.map (rowsOf []).toArray ([]:List (Int × Value)).length)→wpList P ops Q rest (a.put d (.map (some b))) w'):
  wpList P ops Q (⟨d,.makeMap T none,ty,pos,after,none⟩::rest) a w:=
 wpList_val (o:=⟨d,.makeMap T none,ty,pos,after,none⟩) (w':=w.alloc (.map #[] 0)) rfl (by simp[execOp,Instr.makeMap,newObj];rfl)
  (h _ _ (Nat.le_refl _) ((Below.refl _ _).alloc (Nat.le_refl _) _) (by show (w.heap.push _)[w.heap.size]? = _;simp[rowsOf]))
theorem map_insert {T K V:TypeId}(hT:MapT P T K V) {B b:Nat}{l:List (Int × Value)}{m k v:Operand}{kk:Int}{vv:Value}(hge:B≤b) (hbel:Below B w0 w) (hm:w.heap[b]? = some (.map (rowsOf l).toArray l.length))
  (hx:a.eval m=.map (some b)) (hk:a.eval k=.int .i64 kk) (hv:a.eval v=vv) (hn:l.all (fun x=>!(kk==x.1))=true)
  (h:∀ w',Below B w0 w'→w'.heap[b]? = some (.map (rowsOf (l++[(kk,vv)])).toArray (l++[(kk,vv)]).length)→wpList P ops Q rest (a.put d undef) w'):
  wpList P ops Q (⟨d,.insert T m k v,ty,pos,after,none⟩::rest) a w:=by
 have hlt:=heap_lt hm
 refine wpList_unit (o:=⟨d,.insert T m k v,ty,pos,after,none⟩) (w':={ w with heap:=w.heap.setIfInBounds b (.map (rowsOf (l++[(kk,vv)])).toArray (l++[(kk,vv)]).length) }) rfl ?_ (h _ ⟨hbel.os,hbel.tape,hbel.output,by simpa using hbel.size,fun i hi=>?_⟩ (by simp[hlt]))
 ·simp only[execOp,hx,hk,hv]
  rw[Sem.run_bind,run_insert hT hm hn]
  rfl
 ·rw[← hbel.block i hi]
  have:b≠i:=by omega
  simp[Array.getElem?_setIfInBounds,this]
end
theorem shapes_any (w:World):
  Calls Tryz.prog 116 #[] w fun e w'=>∃ b,e=.returned (.map (some b))∧w.heap.size≤b∧w'.heap[b]? = some (.map (rowsOf shapeL).toArray shapeL.length)∧Below w.heap.size w w':=by
 go_enter Tryz.func116,Tryz.ntmps116
 go_wp2_with (first|((with_reducible refine' map_make ?_);intro b w1 hge hbel hm)|((with_reducible refine' map_insert mShapes hge hbel hm rfl rfl rfl ?_ ?_);(case refine'_1=>rfl);clear hm hbel;intro w1 hbel hm;simp only[List.cons_append,List.nil_append]at hm))
 go_ret
 exact⟨b,rfl,hge,hm,hbel⟩
end Go.Proofs.YtplcndmdkabmeaaGreatDoor
namespace Go.Proofs.YtplcndmdkabmeaaGreatDoor
open Go.RowKit
structure ListAt (P:Program) (T:TypeId) (es:Nat) (w:World) (p:Option Addr) (n:Nat) (f:Nat→Value):Prop where
 ex:∃ b o:Nat,(0<n→p=some ⟨b,o,none⟩)∧∀ k,k<n→ReadsAt P T w b (o+k*es) (f k)
theorem ReadsAt.grow {P:Program}{T:TypeId}{w w' : World}{b off:Nat}{v:Value}(h:ReadsAt P T w b off v) (hb:Below w.heap.size w w'):ReadsAt P T w' b off v:=
 ⟨Nat.lt_of_lt_of_le h.lt hb.size,fun w2 h2=>h.run w2 (fun j=>(h2 j).trans (hb.cell (p:=⟨b,j,none⟩) h.lt))⟩
theorem ListAt.grow {P:Program}{T:TypeId}{es:Nat}{w w' : World}{p:Option Addr}{n:Nat}{f:Nat→Value}(h:ListAt P T es w p n f) (hb:Below w.heap.size w w'):ListAt P T es w' p n f:=by
 obtain⟨b,o,h1,h2⟩:=h.ex
 exact⟨b,o,h1,fun k hk=>(h2 k hk).grow hb⟩
structure ListC (w:World) (es:Nat) (p:Option Addr) (n:Nat) (cells:Nat→List Value):Prop where
 ex:∃ b o:Nat,(0<n→p=some ⟨b,o,none⟩)∧∀ k,k<n→b<w.heap.size∧∀ j v,(cells k)[j]? = some v→w.cell? ⟨b,o+k*es+j,none⟩=some v
theorem ListC.grow {w w' : World}{es:Nat}{p:Option Addr}{n:Nat}{cells:Nat→List Value}(h:ListC w es p n cells) (hb:Below w.heap.size w w'):ListC w' es p n cells:=by
 obtain⟨b,o,h1,h2⟩:=h.ex
 exact⟨b,o,h1,fun k hk=>⟨Nat.lt_of_lt_of_le (h2 k hk).1 hb.size,fun j v hj=>(hb.cell (p:=⟨b,o+k*es+j,none⟩) (h2 k hk).1).trans ((h2 k hk).2 j v hj)⟩⟩
theorem ListC.agg {P:Program}{T:TypeId}{w:World}{es:Nat}{p:Option Addr}{n:Nat}{cells:Nat→List Value}(hT:AggT P T es) (h:ListC w es p n cells) (hl:∀ k,(cells k).length=es):ListAt P T es w p n (fun k=>.agg (cells k).toArray):=by
 obtain⟨b,o,h1,h2⟩:=h.ex
 exact⟨b,o,h1,fun k hk=>ReadsAt.agg hT (h2 k hk).1 (h2 k hk).2 (hl k)⟩
def anyN (q:Nat→Bool) (n:Nat):Bool:=(List.range n).any q
theorem anyN_yes {q:Nat→Bool}{n k:Nat}(hk:k<n) (h:q k=true):anyN q n=true:=by
 unfold anyN;rw[List.any_eq_true];exact⟨k,List.mem_range.2 hk,h⟩
theorem anyN_no {q:Nat→Bool}{n:Nat}(h:∀ k,k<n→q k=false):anyN q n=false:=by
 unfold anyN;rw[List.any_eq_false];intro k hk;simp[h k (List.mem_range.1 hk)]
structure FnAt (P:Program) (K:FuncId) (c:Value) (w:World) (n:Nat) (f:Nat→Value) (q:Nat→Bool):Prop where
 enter:∀ args w,(callFunc K args).run P w=.ok (.enter K args) w
 run:∀ k,k<n→∀ w',Below w.heap.size w w'→Calls P K #[f k,c] w' fun e w''=>e=.returned (.bool (q k))∧Below w'.heap.size w' w''
theorem anyN_iff {q:Nat→Bool}{n:Nat}:anyN q n=true↔∃ k,k<n∧q k=true:=by
 unfold anyN;rw[List.any_eq_true]
 exact⟨fun ⟨k,h1,h2⟩=>⟨k,List.mem_range.1 h1,h2⟩,fun ⟨k,h1,h2⟩=>⟨k,List.mem_range.2 h1,h2⟩⟩
structure Vl where
 kind:Int
 n:Int
abbrev Vl.cells (v:Vl):List Value:=[.int .i64 v.kind,.int .i64 v.n]
abbrev Vl.v (v:Vl):Value:=.agg #[.int .i64 v.kind,.int .i64 v.n]
structure Sl where
 p:Option Addr
 n:Nat
 cap:Nat
abbrev Sl.v (s:Sl):Value:=.slice s.p s.n s.cap
abbrev nilSl:Sl:=⟨none,0,0⟩
structure IntsAt (w:World) (s:Sl) (l:List Int):Prop where
 n:s.n=l.length
 m:s.n≤9223372036854775807
 at' : ListC w 1 s.p s.n (fun k=>[.int .i64 (l.getD k 0)])
theorem IntsAt.grow {w w' : World}{s:Sl}{l:List Int}(h:IntsAt w s l) (hb:Below w.heap.size w w'):IntsAt w' s l:=⟨h.n,h.m,h.at'.grow hb⟩
theorem IntsAt.nil (w:World):IntsAt w nilSl []:=⟨rfl,by decide,⟨0,0,fun h=>absurd h (Nat.lt_irrefl 0),fun k hk=>absurd hk (Nat.not_lt_zero k)⟩⟩
theorem IntsAt.reads {P:Program}{T:TypeId}{w:World}{s:Sl}{l:List Int}(hT:CellT P T) (h:IntsAt w s l):∃ b o:Nat,(0<s.n→s.p=some ⟨b,o,none⟩)∧∀ k,k<s.n→ReadsAt P T w b (o+k) (.int .i64 (l.getD k 0)):=by
 obtain⟨b,o,h1,h2⟩:=h.at'.ex
 exact⟨b,o,h1,fun k hk=>by
  have:=ReadsAt.cell (P:=P) hT (h2 k hk).1 ((h2 k hk).2 0 _ rfl)
  simpa using this⟩
theorem RowS.ints {w:World}{B E:Nat}{p:Option Addr}{n cap:Nat}{R:List LBlk}{l:List Int}(h:RowS E 1 p n cap (l.map (fun x=>Value.int .i64 x)) R) (ho:Own B w R):IntsAt w ⟨p,n,cap⟩ l:=by
 obtain⟨h1,h2⟩:=h
 have hn:n=l.length:=by simpa using h1.symm
 rcases h2 with⟨h3,h4,_⟩|⟨g,cs,hp,hR,h3,h4,hcs,htk⟩
 ·exact⟨hn,by show n≤_;omega,⟨0,0,fun h=>absurd h (by show ¬ 0<n;omega),fun k hk=>absurd hk (by show ¬ k<n;omega)⟩⟩
 ·subst hR
  have hg:=(ho.at' _ List.mem_cons_self).2
  refine⟨hn,Nat.le_trans h3 (Nat.le_trans h4 (by decide)),⟨g,0,fun _=>hp,fun k hk=>⟨heap_lt hg,fun j v hj=>?_⟩⟩⟩
  have hk' : k<n:=hk
  have hj0:j=0:=by
   have:=(List.getElem?_eq_some_iff.1 hj).1
   simpa using this
  subst hj0
  have hv:v=.int .i64 (l.getD k 0):=by simpa using hj.symm
  subst hv
  have h5:(cs.take (n*1))[k]? = some (.int .i64 (l.getD k 0)):=by
   rw[htk,List.getElem?_map,List.getD_eq_getElem?_getD,List.getElem?_eq_getElem (by omega)]
   simp
  rw[List.getElem?_take]at h5
  split at h5
  ·simp[World.cell?,hg,h5]
  ·cases h5
theorem flat_len {α:Type}{f:α→List Value}{es:Nat}(hf:∀ x,(f x).length=es):∀ l:List α,(l.flatMap f).length=l.length*es
 | []=>by simp
 | x::l=>by rw[List.flatMap_cons,List.length_append,hf,flat_len hf l,List.length_cons,Nat.add_mul];omega
theorem flat_get {α:Type}{f:α→List Value}{es:Nat}(hf:∀ x,(f x).length=es) (d:α):∀ (l:List α) (k j:Nat),k<l.length→j<es→(l.flatMap f)[k*es+j]? = (f (l.getD k d))[j]?
 | [],k,j,hk,_=>absurd hk (by simp)
 | x::l,0,j,_,hj=>by
  rw[List.flatMap_cons,List.getElem?_append_left (by rw[hf];omega)]
  simp
 | x::l,k+1,j,hk,hj=>by
  have e:(k+1)*es+j - es=k*es+j:=by rw[Nat.add_mul];omega
  rw[List.flatMap_cons,List.getElem?_append_right (by rw[hf,Nat.add_mul];omega),hf,e,flat_get hf d l k j (by simpa using hk) hj]
  simp
theorem flat_split {α:Type}{f:α→List Value}{es:Nat}(hf:∀ x,(f x).length=es) (l:List α) {i:Nat}{u:Value}(h:(l.flatMap f)[i]? = some u):∃ k j,k<l.length∧j<es∧i=k*es+j:=by
 have hi:=(List.getElem?_eq_some_iff.1 h).1
 rw[flat_len hf]at hi
 have hes:0<es:=by
  rcases Nat.eq_zero_or_pos es with h0|h0
  ·subst h0;simp at hi
  ·exact h0
 refine⟨i / es,i % es,(Nat.div_lt_iff_lt_mul hes).2 hi,Nat.mod_lt _ hes,?_⟩
 rw[Nat.mul_comm];exact(Nat.div_add_mod i es).symm
theorem ListC.news {w:World}{es n:Nat}{α:Type}{f:α→List Value}(hf:∀ x,(f x).length=es) {d:α}{l:List α}{p:Option Addr}(h:ListC w es p n (fun k=>f (l.getD k d))) (hn:n=l.length):
  0<n→∃ ad,p=some ad∧∀ j u,(l.flatMap f)[j]? = some u→w.cell? (ad.add j)=some u:=by
 intro hpos
 obtain⟨b,o,h1,h2⟩:=h.ex
 refine⟨⟨b,o,none⟩,h1 hpos,fun i u hi=>?_⟩
 obtain⟨k,j,hk,hj,rfl⟩:=flat_split hf l hi
 rw[flat_get hf d l k j hk hj]at hi
 rw[add_addr,← Nat.add_assoc]
 exact(h2 k (by omega)).2 j u hi
theorem RowS.listC {w:World}{B E es:Nat}{p:Option Addr}{n cap:Nat}{R:List LBlk}{α:Type}{f:α→List Value}(hf:∀ x,(f x).length=es) (d:α) {l:List α}(h:RowS E es p n cap (l.flatMap f) R) (hes:0<es) (ho:Own B w R):
  n=l.length∧ListC w es p n (fun k=>f (l.getD k d)):=by
 obtain⟨h1,h2⟩:=h
 rw[flat_len hf]at h1
 have hn:n=l.length:=(Nat.eq_of_mul_eq_mul_right hes h1).symm
 refine⟨hn,?_⟩
 rcases h2 with⟨h3,_,_⟩|⟨g,cs,hp,hR,_,_,hcs,htk⟩
 ·exact⟨⟨0,0,fun h=>absurd h (by omega),fun k hk=>absurd hk (by omega)⟩⟩
 ·subst hR
  have hg:=(ho.at' _ List.mem_cons_self).2
  refine⟨⟨g,0,fun _=>hp,fun k hk=>⟨heap_lt hg,fun j v hj=>?_⟩⟩⟩
  have hjl:j<es:=by rw[← hf (l.getD k d)];exact(List.getElem?_eq_some_iff.1 hj).1
  rw[← flat_get hf d l k j (by omega) hjl,← htk,List.getElem?_take]at hj
  split at hj
  ·simp[World.cell?,hg,hj]
  ·cases hj
theorem RowS.max {E es:Nat}{p:Option Addr}{n cap:Nat}{xs:List Value}{R:List LBlk}(h:RowS E es p n cap xs R):n≤9223372036854775807:=by
 rcases h.2 with⟨h1,_,_⟩|⟨g,cs,_,_,h1,h2,_⟩
 ·omega
 ·exact Nat.le_trans h1 (Nat.le_trans h2 (by decide))
theorem getD_map_range {α:Type}(n:Nat) (f:Nat→α) (d:α) (k:Nat) (hk:k<n):((List.range n).map f).getD k d=f k:=by
 simp[List.getD_eq_getElem?_getD,List.getElem?_map,List.getElem?_range hk]
theorem ListC.congr {w:World}{es:Nat}{p:Option Addr}{n:Nat}{c c' : Nat→List Value}(h:ListC w es p n c) (e:∀ k,k<n→c' k=c k):ListC w es p n c':=by
 obtain⟨b,o,h1,h2⟩:=h.ex
 exact⟨b,o,h1,fun k hk=>by rw[e k hk];exact h2 k hk⟩
theorem spliced_get {cs vs:List Value}{off:Nat}(h:off+vs.length≤cs.length) (i:Nat):(spliced cs off vs)[i]? = if i<off then cs[i]? else if i<off+vs.length then vs[i - off]? else cs[i]? :=by
 unfold spliced
 by_cases h1:i<off
 ·rw[if_pos h1,List.getElem?_append_left (by rw[List.length_take];omega),List.getElem?_take,if_pos h1]
 ·rw[if_neg h1,List.getElem?_append_right (by rw[List.length_take];omega),List.length_take,Nat.min_eq_left (by omega)]
  by_cases h2:i<off+vs.length
  ·rw[if_pos h2,List.getElem?_append_left (by omega)]
  ·rw[if_neg h2,List.getElem?_append_right (by omega),List.getElem?_drop]
   congr 1;omega
theorem spliced_len {cs vs:List Value}{off:Nat}(h:off+vs.length≤cs.length):(spliced cs off vs).length=cs.length:=by
 unfold spliced
 simp only[List.length_append,List.length_take,List.length_drop];omega
section
variable {E es g n cap : Nat} {cs : List Value} {p : Option Addr} {α : Type} {f : α → List Value} {d : α} {l : List α} {k : Nat}
theorem RowS.block {xs:List Value}{R:List LBlk}(h:RowS E es p n cap xs R) (hn:0<n):∃ g cs,p=some ⟨g,0,none⟩∧R=[(g,E,cs)]∧cs.take (n*es)=xs∧cs.length=cap*es:=by
 rcases h.2 with⟨h1,_⟩|⟨g,cs,h1,h2,_,_,h3,h4⟩
 ·omega
 ·exact⟨g,cs,h1,h2,h4,h3⟩
theorem RowS.same {xs:List Value}(h:RowS E es p n cap xs [(g,E,cs)]):p=some ⟨g,0,none⟩∧n≤cap∧cap≤maxLen∧cs.length=cap*es∧cs.take (n*es)=xs:=by
 rcases h.2 with⟨_,_,h3⟩|⟨g',cs',h1,h2,h3,h4,h5,h6⟩
 ·cases h3
 ·simp only[List.cons.injEq,Prod.mk.injEq,and_true,true_and]at h2
  obtain⟨rfl,rfl⟩:=h2
  exact⟨h1,h3,h4,h5,h6⟩
theorem RowS.elem (hf:∀ x,(f x).length=es) (d:α) (h:RowS E es p n cap (l.flatMap f) [(g,E,cs)]) (hk:k<n):(cs.drop (k*es)).take es=f (l.getD k d):=by
 obtain⟨_,h3,_,h5,h6⟩:=h.same
 have hlen:=h.1
 rw[flat_len hf]at hlen
 have hes:k*es+es≤n*es:=by rw[show k*es+es=(k+1)*es by rw[Nat.add_mul,Nat.one_mul]];exact Nat.mul_le_mul_right _ hk
 have hce:n*es≤cap*es:=Nat.mul_le_mul_right _ h3
 apply List.ext_getElem?
 intro j
 by_cases hj:j<es
 ·have hes0:0<es:=by omega
  have hl:l.length=n:=Nat.eq_of_mul_eq_mul_right hes0 hlen
  rw[List.getElem?_take,if_pos hj,List.getElem?_drop,← flat_get hf d l k j (by omega) hj,← h6,List.getElem?_take,if_pos (by omega)]
 ·rw[List.getElem?_eq_none (by rw[List.length_take,List.length_drop];omega),List.getElem?_eq_none (by rw[hf];omega)]
theorem RowS.put (hf:∀ x,(f x).length=es) (d:α) (h:RowS E es p n cap (l.flatMap f) [(g,E,cs)]) (hk:k<n) (v:α):RowS E es p n cap ((l.set k v).flatMap f) [(g,E,spliced cs (k*es) (f v))]:=by
 obtain⟨h2,h3,h4,h5,h6⟩:=h.same
 have hlen:=h.1
 rw[flat_len hf]at hlen
 have hes:k*es+es≤n*es:=by rw[show k*es+es=(k+1)*es by rw[Nat.add_mul,Nat.one_mul]];exact Nat.mul_le_mul_right _ hk
 have hce:n*es≤cap*es:=Nat.mul_le_mul_right _ h3
 have hsp:k*es+(f v).length≤cs.length:=by rw[hf,h5];omega
 refine⟨by rw[flat_len hf,List.length_set,hlen],.inr ⟨g,_,h2,rfl,h3,h4,by rw[spliced_len hsp,h5],?_⟩⟩
 apply List.ext_getElem?
 intro i
 by_cases hi:i<n*es
 ·have hes0:0<es:=by
   rcases Nat.eq_zero_or_pos es with h0|h0
   ·subst h0;simp at hi
   ·exact h0
  have hl:l.length=n:=Nat.eq_of_mul_eq_mul_right hes0 hlen
  obtain⟨k',j,hk',hj,rfl⟩:∃ k' j,k' < l.length∧j<es∧i=k' * es+j:=
   ⟨i / es,i % es,by rw[hl];exact(Nat.div_lt_iff_lt_mul hes0).2 hi,Nat.mod_lt _ hes0,by rw[Nat.mul_comm];exact(Nat.div_add_mod i es).symm⟩
  rw[List.getElem?_take,if_pos hi,spliced_get hsp,hf,flat_get hf d (l.set k v) k' j (by rw[List.length_set];exact hk') hj]
  by_cases hkk:k'=k
  ·subst hkk
   rw[if_neg (by omega),if_pos (by omega)]
   simp[List.getD_eq_getElem?_getD,hk',Nat.add_sub_cancel_left]
  ·have hlt:k' < k∨k<k':=by omega
   have hold:cs[k' * es+j]? = (f (l.getD k' d))[j]? :=by
    rw[← flat_get hf d l k' j hk' hj,← h6,List.getElem?_take,if_pos hi]
   have hget:(l.set k v).getD k' d=l.getD k' d:=by
    simp[List.getD_eq_getElem?_getD,List.getElem?_set,Ne.symm hkk]
   rw[hget,← hold]
   rcases hlt with h' | h'
   ·have:k' * es+es≤k*es:=by rw[show k' * es+es=(k' + 1)*es by rw[Nat.add_mul,Nat.one_mul]];exact Nat.mul_le_mul_right _ h'
    rw[if_pos (by omega)]
   ·have:k*es+es≤k' * es:=by rw[show k*es+es=(k+1)*es by rw[Nat.add_mul,Nat.one_mul]];exact Nat.mul_le_mul_right _ h'
    rw[if_neg (by omega),if_neg (by omega)]
 ·rw[List.getElem?_eq_none (by rw[List.length_take];omega),List.getElem?_eq_none (by rw[flat_len hf,List.length_set,hlen];omega)]
theorem RowS.flatlen (hf:∀ x,(f x).length=es) (hes:0<es) {R:List LBlk}(h:RowS E es p n cap (l.flatMap f) R):n=l.length:=by
 have hlen:=h.1
 rw[flat_len hf]at hlen
 exact(Nat.eq_of_mul_eq_mul_right hes hlen).symm
end
end Go.Proofs.YtplcndmdkabmeaaGreatDoor
