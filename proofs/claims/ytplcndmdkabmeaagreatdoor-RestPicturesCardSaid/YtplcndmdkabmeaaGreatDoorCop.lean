/- The walk over the reference's CheckProgram. Conditions: the instructions lie in memory that was there. | The walk over the package code's function one. Conditions: the program's numbers are small. -/
import Derived.Test.YtplcndmdkabmeaaGreatDoorCod
set_option linter.unusedSimpArgs false
set_option linter.unusedVariables false
set_option maxRecDepth 100000
set_option maxHeartbeats 4000000
namespace Go.Proofs.YtplcndmdkabmeaaGreatDoor
open Go.Proofs.Tryz
open Go.RowKit
structure UE (p:Pg):Prop where
 v1:1<=p.vars
 v2:p.vars<=8
 f1:0<=p.fields
 f2:p.fields<=3
 n1:p.n<=60
theorem Xl (p:Pg) (i:Ins) (ah:UE p) (w:World):
  Calls prog 55 #[p.v,i.v] w fun e aa=>e=.returned (.int .i64 (zQ p i))∧Below w.heap.size w aa:=by
 obtain⟨v1,al,f1,f2,ak⟩:=ah;have J:=Loc.start w;cases j:zU i.kind 1 19 with
 | false=>
  have ad:V8 i.kind=⟨#[]⟩:=by simp[V8,j]
  have R:=za (fun w=>(by have h:=Gc i.kind w;rw[ad]at h;exact h:Calls prog 71 #[.int .i64 i.kind] w fun e aa=>e=.returned (.string ⟨#[]⟩)∧Below w.heap.size w aa));have o:=za (show zQ p i=6 by simp[zQ,j]);clear ad j;go_enter func55,ntmps55;go_wp2_with (first|(with_reducible first|refine lld J ?_|(refine lbx J ?_;clear J;intro ag ab J))|(go_at_call 71;refine cg J (R.out _) ?_;clear J;intro ab J;dsimp only));refine rt1 ?_;exact⟨by rw[o.out];rfl,J.below⟩
 | true=>
  have U:=Gc i.kind;have P:=zcH j;generalize V8 i.kind=ae at U P;have R:=za U;have o:=za (show zQ p i=if YA p i then 5 else if JG i then 3 else if jQ i then 1 else 0 by simp[zQ,j]);have ai:(!ae.toList.isEmpty)=true:=by simp[P]
  have aj:¬ ae.toList=[]:=by simpa using P
  clear U j;go_enter func55,ntmps55;go_upto_region 5 with(first|(with_reducible first|refine lld J ?_|(refine lbx J ?_;clear J;intro ag ab J))|(go_at_call 71;refine cg J (R.out _) ?_;clear J;intro ab J;dsimp only))
  clear P ai aj;refine zx [15,16,17,18,19,20,21,22,23,24,25,26,27,28,29,30,31,32,33,34,35,36,37,38,39,40,41,42,43,44,45,46,47,48,49,50,51,52,53,54,55,56,57,58,59,60,61,62,63,64,65,66,67,68,69,70,71,72,73,74,75] ?_;refine qdv ?_;refine qdk J (fun _ j J=>KN _ _) ?_
  iterate 4 refine qda ?_
  refine yu J (fun _ j J=>qk0 (qi _ _ _ _)) ?_
  iterate 4 refine qda ?_
  refine yu J (fun _ j J=>qj _ _) ?_
  iterate 4 refine qda ?_
  refine zdI J (fun _ j J=>qk0 (qi _ _ _ _)) ?_
  iterate 5 refine qda ?_
  refine yu J (fun _ j J=>qk _ _) ?_
  iterate 4 refine qda ?_
  refine zdI J (fun _ j J=>qk0 (qi _ _ _ _)) ?_
  iterate 16 refine qda ?_
  refine zdI J (fun _ j J=>qk0 (qi _ _ _ _)) ?_
  iterate 5 refine qda ?_
  refine yu J (fun _ j J=>ZQ _ _) ?_
  iterate 6 refine qda ?_
  refine zdI J (fun _ j J=>qk0 (qi _ _ _ _)) ?_
  iterate 3 refine qda ?_
  refine dns J ?_;clear J;intro an J;simp only[zr,sTa,sTb];cases t:YA p i with
  | true=>
   have g:=t;unfold YA at g;simp only[g];clear g;have H:=za t;clear t;go_wp2;refine rt1 ?_;exact⟨by rw[o.out,if_pos H.out];rfl,J.below⟩
  | false=>
  have g:=t;unfold YA at g;simp only[g];clear g;have T:=za t;clear t;go_upto_region 7 with(fail)
  refine zx [76,77,78,79,80,81,82,83,84,85,86,87,88,89,90,91,92,93,94,95,96,97,98,99,100,101,102,103] ?_
  iterate 5 refine qda ?_
  refine yu J (fun _ j J=>qk0 (qi _ _ _ _)) ?_
  iterate 8 refine qda ?_
  refine zdI J (fun _ j J=>qk0 (qi _ _ _ _)) ?_
  iterate 9 refine qda ?_
  refine zdI J (fun _ j J=>qk0 (qi _ _ _ _)) ?_
  iterate 3 refine qda ?_
  refine dns J ?_;clear J;intro ao J;simp only[zr,sTa,sTb];cases C:JG i with
  | true=>
   have g:=C;unfold JG at g;simp only[g];clear g;have H:=za C;clear C;go_wp2;refine rt1 ?_;exact⟨by rw[o.out,if_neg (by rw[T.out];decide),if_pos H.out];rfl,J.below⟩
  | false=>
  have g:=C;unfold JG at g;simp only[g];clear g;have ac:=za C;clear C;go_upto_region 9 with(fail)
  refine zx [104,105,106,107,108,109,110,111,112,113,114,115,116,117,118,119,120,121,122,123,124,125,126,127,128,129,130,131,132,133,134,135,136,137,138,139,140,141,142,143,144,145,146,147,148,149,150,151] ?_;refine qdv ?_;refine qdk J (fun _ j J=>KN _ _) ?_
  iterate 8 refine qda ?_
  refine yu J (fun _ j J=>qj _ _) ?_
  iterate 9 refine qda ?_
  refine yu J (fun _ j J=>qk _ _) ?_
  iterate 9 refine qda ?_
  refine yu J (fun _ j J=>zbb _ _) ?_
  iterate 9 refine qda ?_
  refine yu J (fun _ j J=>ZQ _ _) ?_
  iterate 7 refine qda ?_
  refine dns J ?_;clear J;intro aq J;simp only[zr,sTa,sTb];cases I:jQ i with
  | true=>
   have g:=I;unfold jQ at g;simp only[g];clear g;have H:=za I;clear I;go_wp2;refine rt1 ?_;exact⟨by rw[o.out,if_neg (by rw[T.out];decide),if_neg (by rw[ac.out];decide),if_pos H.out];rfl,J.below⟩
  | false=>
  have g:=I;unfold jQ at g;simp only[g];clear g;have af:=za I;clear I;go_wp2;refine rt1 ?_;exact⟨by rw[o.out,if_neg (by rw[T.out];decide),if_neg (by rw[ac.out];decide),if_neg (by rw[af.out];decide)];rfl,J.below⟩
def jY (f:Nat->Int):Nat->Nat->Int
 | _,0=>0
 | k,m+1=>if f k≠0 then f k else jY f (k+1) m
def y0 (p:Pg):Bool:=!zU p.vars 1 8 || !zU p.fields 0 3
def zf (p:Pg) (is:Nat->Ins):Int:=if y0 p then 3 else if 60<p.n then 2 else jY (fun k=>zQ p (is k)) 0 p.n
def zy (w:World) (p:Pg) (is:Nat->Ins):Prop:=∃ b i:Nat,(0<p.n->p.pc=some ⟨b,i,none⟩)∧∀ k,k<p.n->b<w.heap.size∧∀ g v,(is k).cells[g]? = some v->w.cell? ⟨b,i+k*6+g,none⟩=some v
theorem zy.reads {w:World}{p:Pg}{is:Nat->Ins}(h:zy w p is):∃ b g:Nat,(0<p.n->p.pc=some ⟨b,g,none⟩)∧∀ k,k<p.n->zd prog 86 w b (g+k*6) (is k).v:=by
 obtain⟨b,g,o,i⟩:=h;exact⟨b,g,o,fun k j=>zd.agg jP (i k j).1 (fun C v t=>(i k j).2 C v t) rfl⟩
theorem zy.kinds {w:World}{p:Pg}{is:Nat->Ins}(h:zy w p is):∃ b g:Nat,(0<p.n->p.pc=some ⟨b,g,none⟩)∧∀ k,k<p.n->zd prog 3 w b (g+k*6) (.int .i64 (is k).kind):=by
 obtain⟨b,g,o,i⟩:=h;exact⟨b,g,o,fun k j=>zd.cell y2 (i k j).1 ((i k j).2 0 _ rfl)⟩
theorem zy.grow {w w' : World}{p:Pg}{is:Nat->Ins}(h:zy w p is) (hb:Below w.heap.size w w'):zy w' p is:=by
 obtain⟨b,o,t,g⟩:=h;exact⟨b,o,t,fun k i=>⟨Nat.lt_of_lt_of_le (g k i).1 hb.size,fun j v C=>(hb.cell (p:=⟨b,o+k*6+j,none⟩) (g k i).1).trans ((g k i).2 j v C)⟩⟩
theorem VL {p:Pg}(h:y0 p=false) (hn:¬ 60<p.n):UE p:=by
 simp[y0,zU]at h;exact⟨by omega,by omega,by omega,by omega,by omega⟩
theorem Ky (p:Pg) (is:Nat->Ins) (w:World) (hc:zy w p is) (hn:p.n<=9223372036854775807):
  Calls prog 22 #[p.v] w fun e aw=>e=.returned (.int .i64 (zf p is))∧Below w.heap.size w aw:=by
 obtain⟨b,o,ai,hc⟩:=hc.reads;have ao:=za ai;have al:=za hc;clear ai hc;have R:=za (show zf p is=if y0 p then 3 else if 60<p.n then 2 else jY (fun k=>zQ p (is k)) 0 p.n from rfl);have J:=Loc.start w;go_enter func22,ntmps22;go_step;go_step;go_step
 ((with_reducible refine lbx J ?_);clear J;intro ar a0 J)
 go_upto_region 1 with(fail)
 refine zx [5,6,7,8,9,10,11,12,13,14] ?_
 iterate 2 refine qdv ?_
 refine qdk J (fun _ U J=>qk0 (qi _ _ _ _)) ?_
 iterate 4 refine qda ?_
 refine yu J (fun _ U J=>qk0 (qi _ _ _ _)) ?_
 iterate 2 refine qda ?_
 refine dns J ?_;clear J;intro ak J;simp only[zr,sTa,sTb];cases j:y0 p with
 | true=>
  have g:=j;unfold y0 at g;simp only[g];clear g;have C:=za j;clear j;go_wp2;refine rt1 ?_;exact⟨by rw[R.out,if_pos C.out];rfl,J.below⟩
 | false=>
 have g:=j;unfold y0 at g;simp only[g];clear g;have C:=za j;clear j;by_cases i:60<p.n
 ·go_wp2_with (with_reducible refine lld J ?_)
  refine rt1 ?_;exact⟨by rw[R.out,if_neg (by rw[C.out];decide),if_pos i];rfl,J.below⟩
 have aq:=za (VL C.out i);have an:=za (show zf p is=jY (fun k=>zQ p (is k)) 0 p.n from by rw[R.out,if_neg (by rw[C.out];decide),if_neg i]);have ay:p.n<=60:=by omega
 clear i;go_wp2_with (with_reducible refine lld J ?_);go_loopw [3] (fun c wr=>∃ k:Nat,k<=p.n∧c=.int .i64 k∧zf p is=jY (fun k=>zQ p (is k)) k (p.n - k)∧Loc w wr [(ar,27,[.int .i64 p.vars,.int .i64 p.fields,.slice p.pc p.n p.cap])] []) (fun c _=>p.n - (intOf c).toNat)
 case atStart=>exact⟨0,Nat.zero_le _,rfl,an.out,J⟩
 case round=>
  obtain⟨k,ax,rfl,af,J⟩:=hrel;have ab:=za af;clear af;by_cases au:k<p.n
  ·obtain⟨m,i⟩:∃ m,p.n - k=m+1:=⟨p.n - k - 1,by omega⟩
   have I:=ab.out;rw[i,jY]at I;have ag:p.n - (k+1)=m:=by omega
   rw[<- ag]at I;have ae:=za I;have ah:=ao.out (by omega);have ac:=za ah;have aj:=al.out k au;have t:=Xl p (is k) aq.out;have ad:=za aj;clear I i ag ah aj;by_cases he:zQ p (is k)=0
   ·rw[he]at t
    have T:=za t;have P:=za he;clear t he;go_upto_region 8 with(with_reducible refine lld J ?_)
    refine zb [26,27,28,29,30,31,32,4] ?_
    iterate 4 refine qdv ?_
    refine qdx ac.out ?_;refine qdl ad.out ?_;refine qdk J (fun _ U J=>T.out _) ?_;refine qdv ?_;refine dnd J ?_;clear J;intro ak J;simp only[zr,sTa,sTb];go_wp2;go_roundw
    case rel=>exact⟨k+1,by omega,by go_num,by have h:=ae.out;rw[if_neg (by simp[P.out])]at h;exact h,J⟩
    case measure=>simp[intOf];omega
   ·have aa:zf p is=zQ p (is k):=by have h:=ae.out;rw[if_pos he]at h;exact h
    have av:(zQ p (is k) != 0)=true:=by simp[he]
    generalize zQ p (is k)=ce at t aa av;have T:=za t;have P:=za aa;clear t aa he;go_upto_region 8 with(with_reducible refine lld J ?_)
    refine zb [26,27,28,29,30,31,32,4] ?_
    iterate 4 refine qdv ?_
    refine qdx ac.out ?_;refine qdl ad.out ?_;refine qdk J (fun _ U J=>T.out _) ?_;refine qdv ?_;refine dnd J ?_;clear J;intro ak J;simp only[zr,sTa,sTb];go_wp2;refine rt1 ?_;exact⟨by rw[P.out];rfl,J.below⟩
  ·go_wp2_with (with_reducible refine lld J ?_)
   refine rt1 ?_;exact⟨by rw[ab.out,show p.n - k=0 by omega];rfl,J.below⟩
theorem Yw {f:Nat->Int}:∀ {m k:Nat},jY f k m=0->∀ g,g<m->f (k+g)=0
 | 0,_,_,g,hj=>absurd hj (by omega)
 | m+1,k,h,g,hj=>by
  unfold jY at h;split at h
  ·rename_i i;exact absurd h i
  ·rename_i i
   rcases Nat.eq_zero_or_pos g with rfl|j
   ·simpa using i
   ·have:=Yw h (g - 1) (by omega)
    rwa [show k+1+(g - 1)=k+g by omega]at this
theorem zp {p:Pg}{is:Nat->Ins}(h:zf p is=0):UE p∧∀ k,k<p.n->zQ p (is k)=0:=by
 unfold zf at h;split at h
 ·cases h
 rename_i g;split at h
 ·cases h
 rename_i i;exact⟨VL (by simpa using g) i,fun k j=>by simpa using Yw h k j⟩
set_option maxHeartbeats 8000000
def QB:List (List UInt8):=[[],[118,110],[118,116],[118],[118,97],[118,97,98],[118,97,98],[118,97,98],[118,97,98],[118,97,98],[118,97],[118],[118,97,102],[97,102,98],[118,105],[97,103],[103],[97],[97],[]]
def z6 (k:Int):ByteArray:=⟨(QB.getD k.toNat []).toArray⟩
theorem zfv {k:Int}(h:zU k 1 19=true):∃ g,yg.find? (fun x=>k==x.1)=some (k,.agg #[.string g,.string (z6 k)]):=by
 rcases yf h with rfl|rfl|rfl|rfl|rfl|rfl|rfl|rfl|rfl|rfl|rfl|rfl|rfl|rfl|rfl|rfl|rfl|rfl|rfl<;>exact⟨_,rfl⟩
theorem zgW {k:Int}(h:zU k 1 19=false):yg.find? (fun x=>k==x.1)=none:=by
 rw[List.find?_eq_none];simp[zU]at h;intro x g;simp only[yg,List.mem_cons,List.not_mem_nil,or_false]at g;rcases g with rfl|rfl|rfl|rfl|rfl|rfl|rfl|rfl|rfl|rfl|rfl|rfl|rfl|rfl|rfl|rfl|rfl|rfl|rfl<;>simp<;>omega
theorem Ud {k:Int}(h:zU k 1 19=true):(z6 k).size<=3:=by
 rcases yf h with rfl|rfl|rfl|rfl|rfl|rfl|rfl|rfl|rfl|rfl|rfl|rfl|rfl|rfl|rfl|rfl|rfl|rfl|rfl<;>decide +kernel
theorem hzs:∀ w,(zeroValue 162).run prog w=.ok (.agg #[.string ⟨#[]⟩,.string ⟨#[]⟩]) w:=fun w=>by kernel_rfl
section
variable {P : Program} {ops : Array Oper} {Q : Exit -> Act -> World -> Prop} {a : Act} {w : World} {rest : List Oper} {d : Option Tmp} {ty : TypeId} {pos : String} {after : Array Edge}
theorem VM {T K V:TypeId}{z v:Value}{b:Nat}{l:List (Int × Value)}{kk:Int}{x k:Operand}(hT:zdJ P T K V) (hz:∀ w,(zeroValue V).run P w=.ok z w) (h:w.heap[b]? = some (.map (jF l).toArray l.length))
  (hv:Kg l z kk=v) (i:a.eval x=.map (some b)) (hk:a.eval k=.int .i64 kk)
  (g:wpList P ops Q rest (a.put d v) w):wpList P ops Q (⟨d,.lookup T x k true,ty,pos,after,none⟩::rest) a w:=
 qp (o:=⟨d,.lookup T x k true,ty,pos,after,none⟩) (w':=w) rfl (by simp only[execOp,i,hk];rw[Sem.run_bind,Vn hT hz h,hv];rfl) g
end
def Xm (B:Nat) (es:Array MapEntry) (c:Nat):Value->World->Prop:=fun v w=>∃ b,B<=b∧v=.map (some b)∧w.heap[b]? = some (.map es c)
theorem Xm.stable {B es c}:qC (Xm B es c):=by
 rintro v w o i ⟨b,h,j,g⟩;exact⟨b,h,j,(i.block _ (zz g)).trans g⟩
theorem zid (p:Pg) (i:Ins) (hb:zU i.kind 1 19=false) (w:World):
  Calls prog 86 #[p.v,i.v] w fun e ah=>e=.returned (.int .i64 6)∧Below w.heap.size w ah:=by
 have T:=zgW hb;have aa:=za T;clear T hb;have J:=Loc.start w;go_enter func86,ntmps86;go_upto_region 1 with(with_reducible refine lbx J ?_;clear J;intro ak o J)
 refine zb [11,12,13,14,10,15,16,5] ?_;refine qdn (Xm o.heap.size (jF yg).toArray yg.length) Xm.stable J ?_ ?_
 ·intro g w hb J _ q;simp only[fD]
  go_wp2_with (go_at_call 116;refine(Xa _).mono ?_;rintro e al ⟨b,rfl,ae,af,ad⟩;dsimp only);exact⟨rfl,_,rfl,ad,b,Nat.le_trans hb.size ae,rfl,af⟩
 iterate 2 refine qdv ?_
 refine' j2 J ?_ ?_;rotate_left
 ·intro g w hb J y q;simp only[aG]at q;have d0:(Xm o.heap.size (jF yg).toArray yg.length) (g 11) w:=yr y 0;obtain⟨ab,ac,d0,R⟩:=d0;clear y;simp only[fD];simp only[q,d0]
  refine VM (v:=.tuple #[.agg #[.string ⟨#[]⟩,.string ⟨#[]⟩],.bool false]) GY hzs R (by unfold Kg;rw[aa.out]) rfl rfl ?_;exact cY
 iterate 3 refine qdv ?_
 refine qdp ?_;refine de1 6 J ?_ ?_
 ·(refine yj rfl rfl ?_;intro g w hb y;(try simp[zD,List.filter_cons,Region.binds,j7,RAt]at y);simp only[fD];(try simp only[y]);exact⟨_,.inl ⟨rfl,fun w=>(by go_simp<;>(try (split<;>(rename_i ag;simp[ag,cnd]))))⟩,rfl⟩)
 intro g ai hb t q;simp only[aG]at q;have j:(Xm o.heap.size (jF yg).toArray yg.length) (g 11) ai:=qye t 0;obtain⟨ab,ac,j,R⟩:=j;obtain⟨aj,U,I,C⟩:=qye t 7;clear t;simp only[fD];simp only[q,j,I];clear q j I;replace J:=J.gain hb U C;clear U C;clear hb;go_wp2_with (with_reducible refine zc J ?_;clear J;intro o J);refine rt1 ?_;exact⟨rfl,J.below⟩
def JV (i:Ins) (c:Int):Int:=if c=118 then i.to else if c=97 then i.a else if c=98 then i.b else if c=103 then i.goto else i.n
theorem zdb (i:Ins) (c:Int):i.cells[zbc c]? = some (.int .i64 (JV i c)):=by
 unfold zbc JV;by_cases g:c=118
 ·simp[g]
 ·by_cases j:c=97
  ·simp[j]
  ·by_cases o:c=98
   ·simp[o]
   ·by_cases p:c=103
    ·simp[p]
    ·simp[g,j,o,p]
def zaX (i:Ins) (c:Int):Ins:=if c=118 then { i with to:=0 } else if c=97 then { i with a:=0 } else if c=98 then { i with b:=0 } else if c=103 then { i with goto:=0 } else { i with n:=0 }
theorem zfw (i:Ins) (c:Int):zj i.cells (zbc c) [.int .i64 0]=(zaX i c).cells:=by
 unfold zbc zaX;by_cases g:c=118
 ·simp[g,zj]
 ·by_cases j:c=97
  ·simp[j,zj]
  ·by_cases o:c=98
   ·simp[o,zj]
   ·by_cases p:c=103
    ·simp[p,zj]
    ·simp[g,j,o,p,zj]
def qP (g:ByteArray) (k:Nat):Int:=((g.data.toList.getD k 0).toNat:Int)
theorem Ue {g:ByteArray}{k:Nat}(h:k<g.size):((g[k]'h).toNat:Int)=qP g k:=by
 have i:k<g.data.size:=h;simp only[qP,List.getD,Array.getElem?_toList,Array.getElem?_eq_getElem i,Option.getD_some];rfl
def ZJ (g:ByteArray) (i:Ins):Nat->Ins
 | 0=>i
 | k+1=>zaX (ZJ g i k) (qP g k)
def ZK (p:Pg) (i:Ins) (j:ByteArray) (k:Nat):Prop:=∀ g,g<k->Jb p (qP j g) (JV i (qP j g))=true
def U5 (i:Ins) (j:ByteArray) (k:Nat):Prop:=∀ g,g<k->ZR (qP j g) (JV i (qP j g))=true
theorem zgX (c:Int):zbc c+1<=6:=by unfold zbc;split;omega;split;omega;split;omega;split<;>omega
theorem few {k n:Nat}(h:k<n) (hn:n<=3):k=0∨k=1∨k=2:=by omega
theorem zgY {p:Pg}{i:Ins}(hb:zU i.kind 1 19=true) {k:Nat}(hk:k<(z6 i.kind).size) (h:Jb p (qP (z6 i.kind) k) (JV i (qP (z6 i.kind) k))=false):YA p i=true:=by
 have g:=few hk (Ud hb);obtain⟨o,to,a,b,n,j⟩:=i;dsimp only at hb hk h g;rcases yf hb with rfl|rfl|rfl|rfl|rfl|rfl|rfl|rfl|rfl|rfl|rfl|rfl|rfl|rfl|rfl|rfl|rfl|rfl|rfl<;>rcases g with rfl|rfl|rfl<;>
  first
   | (exact absurd hk (by decide))
   | (simp[qP,z6,QB,Jb,JV]at h;done)
   | (simp[qP,z6,QB,Jb,JV,zU]at h;simp[YA,nTo,nA,nB,V7,zU];omega)
theorem VN {p:Pg}{i:Ins}(hb:zU i.kind 1 19=true) (h:ZK p i (z6 i.kind) (z6 i.kind).size):YA p i=false:=by
 have g:=h 0;have j:=h 1;have o:=h 2;clear h;obtain⟨C,to,a,b,n,t⟩:=i;dsimp only at hb g j o;rcases yf hb with rfl|rfl|rfl|rfl|rfl|rfl|rfl|rfl|rfl|rfl|rfl|rfl|rfl|rfl|rfl|rfl|rfl|rfl|rfl<;>
  ((try simp[qP,z6,QB,Jb,JV,ByteArray.size,zU]at g);(try simp[qP,z6,QB,Jb,JV,ByteArray.size,zU]at j);(try simp[qP,z6,QB,Jb,JV,ByteArray.size,zU]at o);(simp[YA,nTo,nA,nB,V7,zU]);(try omega))
theorem zfx {i:Ins}(hb:zU i.kind 1 19=true) {k:Nat}(hk:k<(z6 i.kind).size) (h:ZR (qP (z6 i.kind) k) (JV i (qP (z6 i.kind) k))=false):JG i=true:=by
 have g:=few hk (Ud hb);obtain⟨o,to,a,b,n,j⟩:=i;dsimp only at hb hk h g;rcases yf hb with rfl|rfl|rfl|rfl|rfl|rfl|rfl|rfl|rfl|rfl|rfl|rfl|rfl|rfl|rfl|rfl|rfl|rfl|rfl<;>rcases g with rfl|rfl|rfl<;>
  first
   | (exact absurd hk (by decide))
   | (simp[qP,z6,QB,ZR,JV]at h;done)
   | (simp[qP,z6,QB,ZR,JV,zU]at h;simp[JG,zU];omega)
theorem XY {i:Ins}(hb:zU i.kind 1 19=true) (h:U5 i (z6 i.kind) (z6 i.kind).size):JG i=false:=by
 have g:=h 0;have j:=h 1;have o:=h 2;clear h;obtain⟨t,to,a,b,n,p⟩:=i;dsimp only at hb g j o;rcases yf hb with rfl|rfl|rfl|rfl|rfl|rfl|rfl|rfl|rfl|rfl|rfl|rfl|rfl|rfl|rfl|rfl|rfl|rfl|rfl<;>
  ((try simp[qP,z6,QB,ZR,JV,ByteArray.size,zU]at g);(try simp[qP,z6,QB,ZR,JV,ByteArray.size,zU]at j);(try simp[qP,z6,QB,ZR,JV,ByteArray.size,zU]at o);(simp[JG,zU]);(try omega))
theorem zaY {i:Ins}(hb:zU i.kind 1 19=true):jQ i=false↔ZJ (z6 i.kind) i (z6 i.kind).size=⟨i.kind,0,0,0,0,0⟩:=by
 obtain⟨j,to,a,b,n,g⟩:=i;dsimp only at hb;rcases yf hb with rfl|rfl|rfl|rfl|rfl|rfl|rfl|rfl|rfl|rfl|rfl|rfl|rfl|rfl|rfl|rfl|rfl|rfl|rfl<;>
  (simp[z6,QB,ByteArray.size,ZJ,qP,zaX,jQ,nTo,nA,nB,nN,V7,zU];(try omega))
theorem zje {p:Pg}{i:Ins}(hb:zU i.kind 1 19=true):∀ k,k<(z6 i.kind).size->Jb p (qP (z6 i.kind) k) (JV i (qP (z6 i.kind) k))=false->zQ p i=5:=fun k g h=>by
 simp[zQ,hb,zgY hb g h]
theorem zjf {p:Pg}{i:Ins}(hb:zU i.kind 1 19=true):ZK p i (z6 i.kind) (z6 i.kind).size->∀ k,k<(z6 i.kind).size->ZR (qP (z6 i.kind) k) (JV i (qP (z6 i.kind) k))=false->zQ p i=3:=fun j k g h=>by
 simp[zQ,hb,VN hb j,zfx hb g h]
theorem zjg {p:Pg}{i:Ins}(hb:zU i.kind 1 19=true):ZK p i (z6 i.kind) (z6 i.kind).size->U5 i (z6 i.kind) (z6 i.kind).size->ZJ (z6 i.kind) i (z6 i.kind).size≠⟨i.kind,0,0,0,0,0⟩->zQ p i=1:=fun j o g=>by
 have:jQ i=true:=by
  cases h:jQ i with
  | true=>rfl
  | false=>exact absurd ((zaY hb).1 h) g
 simp[zQ,hb,VN hb j,XY hb o,this]
theorem zjh {p:Pg}{i:Ins}(hb:zU i.kind 1 19=true):ZK p i (z6 i.kind) (z6 i.kind).size->U5 i (z6 i.kind) (z6 i.kind).size->ZJ (z6 i.kind) i (z6 i.kind).size=⟨i.kind,0,0,0,0,0⟩->zQ p i=0:=fun j o g=>by
 simp[zQ,hb,VN hb j,XY hb o,(zaY hb).2 g]
theorem zgZ (p:Pg) (i:Ins) (hb:zU i.kind 1 19=true) (aF:UE p) (w:World):
  Calls prog 86 #[p.v,i.v] w fun e aP=>e=.returned (.int .i64 (zQ p i))∧Below w.heap.size w aP:=by
 obtain⟨aq,an⟩:=zfv hb;have aC:=Ud hb;have aj:=zje (p:=p) hb;have ai:=zjf (p:=p) hb;have I:=zjg (p:=p) hb;have C:=zjh (p:=p) hb;generalize z6 i.kind=g at an aC aj ai I C;have a4:=za aj;have a3:=za ai;have a2:=za I;have a1:=za C;clear aj ai I C;have a5:=za an;have aQ:=za hb;obtain⟨v1,aO,f1,f2,aR⟩:=aF;clear an hb;have J:=Loc.start w;go_enter func86,ntmps86;go_step;go_step;go_step
 ((with_reducible refine lbx J ?_);clear J;intro ar U J)
 ((with_reducible refine lbx J ?_);clear J;intro aa U J)
 go_upto_region 1 with(fail)
 refine zb [11,12,13,14,10,15,16,5] ?_;refine qdn (Xm U.heap.size (jF yg).toArray yg.length) Xm.stable J ?_ ?_
 ·intro T w hb J _ q;simp only[fD]
  go_wp2_with (go_at_call 116;refine(Xa _).mono ?_;rintro e aS ⟨b,rfl,aD,aE,aA⟩;dsimp only);exact⟨rfl,_,rfl,aA,b,Nat.le_trans hb.size aD,rfl,aE⟩
 iterate 2 refine qdv ?_
 refine' j2 J ?_ ?_;rotate_left
 ·intro T w hb J y q;simp only[aG]at q;have d0:(Xm U.heap.size (jF yg).toArray yg.length) (T 11) w:=yr y 0;obtain⟨a8,a9,d0,ax⟩:=d0;clear y;simp only[fD];simp only[q,d0]
  refine VM (v:=.tuple #[.agg #[.string aq,.string g],.bool true]) GY hzs ax (by unfold Kg;rw[a5.out]) rfl rfl ?_;exact cY
 iterate 3 refine qdv ?_
 refine qdp ?_;refine de1 6 J ?_ ?_
 ·(refine yj rfl rfl ?_;intro T w hb y;(try simp[zD,List.filter_cons,Region.binds,j7,RAt]at y);simp only[fD];(try simp only[y]);exact⟨_,.inl ⟨rfl,fun w=>(by go_simp<;>(try (split<;>(rename_i aH;simp[aH,cnd]))))⟩,rfl⟩)
 intro T ao hb ak q;simp only[aG]at q;have af:(Xm U.heap.size (jF yg).toArray yg.length) (T 11) ao:=qye ak 0;obtain⟨a8,a9,af,ax⟩:=af;obtain⟨au,a0,aw,av⟩:=qye ak 7;clear ak;simp only[fD];simp only[q,af,aw];clear q af aw;replace J:=J.gain hb a0 av;clear a0 av;clear hb;go_upto_region 5 with(with_reducible first|refine lld J ?_|(refine lal J ?_;clear J;intro a7 U J)|(refine zc J ?_;clear J;intro U J))
 obtain⟨ae,aB⟩:∃ x,x=a7:=⟨_,rfl⟩;subst aB;go_wp2_with (with_reducible refine lld J ?_);go_loopw [23] (fun c wr=>∃ k:Nat,k<=g.size∧c=.int .i64 k∧ZK p i g k∧Loc w wr [(ae,86,i.cells),(au,162,[.string aq,.string g]),(aa,86,i.cells),(ar,27,[.int .i64 p.vars,.int .i64 p.fields,.slice p.pc p.n p.cap])] []) (fun c _=>g.size - (intOf c).toNat)
 case atStart=>exact⟨0,Nat.zero_le _,rfl,fun t ac=>absurd ac (by omega),J⟩
 case round=>
  obtain⟨k,al,rfl,az,J⟩:=hrel;have ad:=za az;clear az;by_cases o:k<g.size
  ·go_upto_region 8 with(fail)
   refine zb [26,27,28,29,30,31,32,33,34,35,36,37,38,39] ?_
   iterate 9 refine qdv ?_
   refine qdk J (fun _ hb J=>qk0 (V9 aa _ _)) ?_;refine qdv ?_;refine' j2 J ?_ ?_;rotate_left
   ·intro T w hb J _ q;simp only[aG]at q;simp only[fD];simp only[q]
    refine ya (b:=aa) J rfl rfl cIn (zn.cell y2 (zdb i _)) ?_;exact cY
   refine qdk J (fun _ hb J=>zew p _ _ v1 aO f1 f2 _) ?_;refine qdv ?_;refine dnd J ?_;clear J;intro ao J;simp only[zr,sTa,sTb];simp only[Ue o];cases j:Jb p (qP g k) (JV i (qP g k)) with
   | false=>
    have R:=za j;clear j;go_wp2;refine rt1 ?_;exact⟨by rw[a4.out k o R.out];rfl,J.below⟩
   | true=>
    have R:=za j;clear j;go_wp2;go_roundw
    case rel=>
     refine⟨k+1,by omega,by go_num,fun t ac=>?_,J⟩;rcases Nat.lt_or_ge t k with h|h
     ·exact ad.out t h
     ·obtain rfl:t=k:=by omega
      exact R.out
    case measure=>simp[intOf];omega
  ·obtain rfl:k=g.size:=by omega
   clear al o;go_wp2_with (with_reducible refine lld J ?_);go_loopw [44] (fun c wr=>∃ k:Nat,k<=g.size∧c=.int .i64 k∧U5 i g k∧Loc w wr [(ae,86,(ZJ g i k).cells),(au,162,[.string aq,.string g]),(aa,86,i.cells),(ar,27,[.int .i64 p.vars,.int .i64 p.fields,.slice p.pc p.n p.cap])] []) (fun c _=>g.size - (intOf c).toNat)
   case atStart=>exact⟨0,Nat.zero_le _,rfl,fun t ac=>absurd ac (by omega),J⟩
   case round=>
    obtain⟨k,al,rfl,ay,J⟩:=hrel;have ah:=za ay;clear ay;by_cases o:k<g.size
    ·go_upto_region 14 with(fail)
     refine zb [47,48,49,50,51,52,53,54,55,56,57,58,59] ?_
     iterate 8 refine qdv ?_
     refine qdk J (fun _ hb J=>qk0 (V9 aa _ _)) ?_;refine qdv ?_;refine' j2 J ?_ ?_;rotate_left
     ·intro T w hb J _ q;simp only[aG]at q;simp only[fD];simp only[q]
      refine ya (b:=aa) J rfl rfl cIn (zn.cell y2 (zdb i _)) ?_;exact cY
     refine qdk J (fun _ hb J=>qk0 (zf6 _ _ _)) ?_;refine qdv ?_;refine dnd J ?_;clear J;intro ao J;simp only[zr,sTa,sTb];simp only[Ue o];cases j:ZR (qP g k) (JV i (qP g k)) with
     | false=>
      have R:=za j;clear j;go_wp2;refine rt1 ?_;exact⟨by rw[a3.out ad.out k o R.out];rfl,J.below⟩
     | true=>
      have R:=za j;clear j;go_upto_region 16 with(fail)
      go_wp2_with (first|(refine zR (b:=ae) (vs:=[.int .i64 0]) (cs':=(zaX (ZJ g i k) ((g[k]'o).toNat:Int)).cells) J Uu rfl cIn rfl y2.sz rfl (zgX _) (zfw _ _) ?_;clear J;intro U J)|(with_reducible refine lld J ?_)|(go_at_call 117;refine cg0 (V9 ae _ _) ?_;dsimp only));go_roundw
      case rel=>
       refine⟨k+1,by omega,by go_num,fun t ac=>?_,J.conv (by rw[Ue o];rfl)⟩;rcases Nat.lt_or_ge t k with h|h
       ·exact ah.out t h
       ·obtain rfl:t=k:=by omega
        exact R.out
      case measure=>simp[intOf];omega
    ·obtain rfl:k=g.size:=by omega
     clear al o;have I:=a2.out ad.out ah.out;have C:=a1.out ad.out ah.out;generalize ZJ g i g.size=r at I C J;obtain⟨aL,aN,aI,aJ,aM,aK⟩:=r;by_cases ab:(⟨aL,aN,aI,aJ,aM,aK⟩:Ins)=⟨i.kind,0,0,0,0,0⟩
     ·have ag:=za (C ab)
      simp only[Ins.mk.injEq]at ab;obtain⟨rfl,rfl,rfl,rfl,rfl,rfl⟩:=ab;clear I C;go_wp2_with (with_reducible refine lld J ?_);refine rt1 ?_;exact⟨by rw[ag.out];rfl,J.below⟩
     ·have ag:=za (I ab)
      have a6:=za ab;clear I C ab;go_wp2_with (with_reducible refine lld J ?_)
      all_goals
       refine rt1 ?_
       first
        | exact⟨by rw[ag.out];rfl,J.below⟩
        | (exfalso;refine a6.out ?_;simp_all;done)
theorem zg0 (p:Pg) (i:Ins) (j:UE p) (w:World):
  Calls prog 86 #[p.v,i.v] w fun e o=>e=.returned (.int .i64 (zQ p i))∧Below w.heap.size w o:=by
 cases g:zU i.kind 1 19 with
 | true=>exact zgZ p i g j w
 | false=>
  have h:=zid p i g w;rw[show zQ p i=6 by simp[zQ,g]];exact h
end Go.Proofs.YtplcndmdkabmeaaGreatDoor
