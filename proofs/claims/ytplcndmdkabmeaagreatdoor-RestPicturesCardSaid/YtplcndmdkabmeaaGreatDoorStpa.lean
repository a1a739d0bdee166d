/- The walks over create's inner functions: a guess of one new thing. Conditions: what they read lies in memory that was there. -/
import Derived.Test.YtplcndmdkabmeaaGreatDoorGua
import Derived.Test.YtplcndmdkabmeaaGreatDoorPicb
import Derived.Test.YtplcndmdkabmeaaGreatDoorPicc
import Derived.Test.YtplcndmdkabmeaaGreatDoorGue
import Derived.Test.YtplcndmdkabmeaaGreatDoorEnd0
set_option linter.unusedSimpArgs false
set_option linter.unusedVariables false
set_option maxRecDepth 100000
set_option maxHeartbeats 4000000
namespace Go.Proofs.YtplcndmdkabmeaaGreatDoor
open Go.Proofs.Tryz
open Go.RowKit
theorem zgD (a b:zm) (w:World):(binOp .eql 106 (.agg #[.bool a.none,.int .i64 a.lo,.int .i64 a.hi]) (.agg #[.bool b.none,.int .i64 b.lo,.int .i64 b.hi])).run prog w=.ok (.bool (a.none==b.none&&a.lo==b.lo&&a.hi==b.hi)) w:=by
 cases g:(a.none==b.none)<;>cases i:(a.lo==b.lo)<;>cases j:(a.hi==b.hi)
 all_goals
  go_simp
  try simp_all
theorem zdR (x y:Operand) (a b:zm) (w:World):(eqGuard .eql 106 x y (.agg #[.bool a.none,.int .i64 a.lo,.int .i64 a.hi]) (.agg #[.bool b.none,.int .i64 b.lo,.int .i64 b.hi])).run prog w=.ok () w:=by
 go_simp
theorem Qa {ops:Array Oper}{Q:Exit->Act->World->Prop}{g:Act}{w:World}{rest:List Oper}{d:Option Tmp}{ty u:TypeId}{pos:String}{after:Array Edge}{x y:Operand}{a b:zm}{r:Bool}(ha:g.eval x=a.v) (hb:g.eval y=b.v) (i:(a.none==b.none&&a.lo==b.lo&&a.hi==b.hi)=r)
  (h:wpList prog ops Q rest (g.put d (.bool r)) w):wpList prog ops Q (⟨d,.binOp .eql 106 x y u,ty,pos,after,none⟩::rest) g w:=by
 subst i;refine YK (w':=w) ?_ ?_ h
 ·rw[ha,hb];exact zdR x y a b w
 ·rw[ha,hb];exact zgD a b w
def ji (s:zm):zm:=if (s.none==false&&s.lo==0&&s.hi==0)=true then zA else if (!s.none&&s.lo==0)=true then ⟨s.none,1,s.hi⟩ else if (!s.none&&s.hi==0)=true then ⟨s.none,s.lo,-1⟩ else s
abbrev J8 (g:Gu):Gu:=⟨false,ji g.span,g.tr,false,g.s⟩
abbrev Kj (g:Gu):Gu:=⟨g.null,q4 g.span ⟨false,0,0⟩,false,g.fa,zi⟩
theorem XM (g:Gu) (w:World):Calls prog 160 #[g.v] w fun e ah=>e=.returned (J8 g).v∧Below w.heap.size w ah:=by
 obtain⟨ad,⟨I,o,j⟩,P,ac,⟨sp,t,C⟩⟩:=g;have p:=za (show J8 ⟨ad,⟨I,o,j⟩,P,ac,⟨sp,t,C⟩⟩=⟨false,if (I==false&&o==0&&j==0)=true then zA else if (!I&&o==0)=true then ⟨I,1,j⟩ else if (!I&&j==0)=true then ⟨I,o,-1⟩ else ⟨I,o,j⟩,P,false,⟨sp,t,C⟩⟩ from rfl);cases ab:(I==false&&o==0&&j==0) with
 | true=>
  rw[ab,if_pos rfl]at p;have aa:=za ab;clear ab;have J:=Loc.start w;go_enter func160,ntmps160;go_upto_region 2 with(with_reducible first|refine lld J ?_|((first|refine lbx J ?_|refine lal J ?_|refine lbs J ?_);clear J;intro R i J)|(refine zc J ?_;clear J;intro i J))
  refine zb [6,7,8,9,5] ?_
  iterate 2 refine qdv ?_
  refine qdk J (fun _ T J=>yv _ _ _) ?_;refine' j2 J ?_ ?_;rotate_left
  ·intro g w T J _ q;simp only[aG]at q;simp only[fD];simp only[q]
   refine Qa (a:=⟨I,o,j⟩) (b:=⟨false,0,0⟩) rfl rfl aa.out ?_;go_wp2;exact cY
  refine qdv ?_;refine dnd J ?_;clear J;intro ae J;simp only[zr,sTa,sTb];go_wp2_with (first|(with_reducible first|refine lld J ?_|((first|refine lbx J ?_|refine lal J ?_|refine lbs J ?_);clear J;intro R i J)|(refine zc J ?_;clear J;intro i J))|(go_at_call 181;refine cg J (JW _) ?_;clear J;intro i J;dsimp only))
  (try simp only[Exit.inBlock,Exit.then]);refine rt1 ?_
  exact⟨by rw[p.out],J.below⟩
 | false=>
  rw[ab,if_neg (by decide)]at p;have aa:=za ab;clear ab;cases I with
  | true=>
   have U:=za (show J8 ⟨ad,⟨true,o,j⟩,P,ac,⟨sp,t,C⟩⟩=⟨false,⟨true,o,j⟩,P,false,⟨sp,t,C⟩⟩ from p.out.trans rfl);clear p;have J:=Loc.start w;go_enter func160,ntmps160;go_upto_region 2 with(with_reducible first|refine lld J ?_|((first|refine lbx J ?_|refine lal J ?_|refine lbs J ?_);clear J;intro R i J)|(refine zc J ?_;clear J;intro i J))
   refine zb [6,7,8,9,5] ?_
   iterate 2 refine qdv ?_
   refine qdk J (fun _ T J=>yv _ _ _) ?_;refine' j2 J ?_ ?_;rotate_left
   ·intro g w T J _ q;simp only[aG]at q;simp only[fD];simp only[q]
    refine Qa (a:=⟨true,o,j⟩) (b:=⟨false,0,0⟩) rfl rfl aa.out ?_;go_wp2;exact cY
   refine qdv ?_;refine dnd J ?_;clear J;intro ae J;simp only[zr,sTa,sTb];go_wp2_with (with_reducible first|refine lld J ?_|((first|refine lbx J ?_|refine lal J ?_|refine lbs J ?_);clear J;intro R i J)|(refine zc J ?_;clear J;intro i J))
   (try simp only[Exit.inBlock,Exit.then]);refine rt1 ?_
   exact⟨by rw[U.out],J.below⟩
  | false=>
   cases af:(o==0) with
   | true=>
    have U:=za (show J8 ⟨ad,⟨false,o,j⟩,P,ac,⟨sp,t,C⟩⟩=⟨false,⟨false,1,j⟩,P,false,⟨sp,t,C⟩⟩ from p.out.trans (by rw[af];rfl));clear p;have J:=Loc.start w;go_enter func160,ntmps160;go_upto_region 2 with(with_reducible first|refine lld J ?_|((first|refine lbx J ?_|refine lal J ?_|refine lbs J ?_);clear J;intro R i J)|(refine zc J ?_;clear J;intro i J))
    refine zb [6,7,8,9,5] ?_
    iterate 2 refine qdv ?_
    refine qdk J (fun _ T J=>yv _ _ _) ?_;refine' j2 J ?_ ?_;rotate_left
    ·intro g w T J _ q;simp only[aG]at q;simp only[fD];simp only[q]
     refine Qa (a:=⟨false,o,j⟩) (b:=⟨false,0,0⟩) rfl rfl aa.out ?_;go_wp2;exact cY
    refine qdv ?_;refine dnd J ?_;clear J;intro ae J;simp only[zr,sTa,sTb];go_wp2_with (with_reducible first|refine lld J ?_|((first|refine lbx J ?_|refine lal J ?_|refine lbs J ?_);clear J;intro R i J)|(refine zc J ?_;clear J;intro i J))
    (try simp only[Exit.inBlock,Exit.then]);refine rt1 ?_
    exact⟨by rw[U.out],J.below⟩
   | false=>
    cases ag:(j==0) with
    | true=>
     have U:=za (show J8 ⟨ad,⟨false,o,j⟩,P,ac,⟨sp,t,C⟩⟩=⟨false,⟨false,o,-1⟩,P,false,⟨sp,t,C⟩⟩ from p.out.trans (by rw[af,ag];rfl));clear p;have J:=Loc.start w;go_enter func160,ntmps160;go_upto_region 2 with(with_reducible first|refine lld J ?_|((first|refine lbx J ?_|refine lal J ?_|refine lbs J ?_);clear J;intro R i J)|(refine zc J ?_;clear J;intro i J))
     refine zb [6,7,8,9,5] ?_
     iterate 2 refine qdv ?_
     refine qdk J (fun _ T J=>yv _ _ _) ?_;refine' j2 J ?_ ?_;rotate_left
     ·intro g w T J _ q;simp only[aG]at q;simp only[fD];simp only[q]
      refine Qa (a:=⟨false,o,j⟩) (b:=⟨false,0,0⟩) rfl rfl aa.out ?_;go_wp2;exact cY
     refine qdv ?_;refine dnd J ?_;clear J;intro ae J;simp only[zr,sTa,sTb];go_wp2_with (with_reducible first|refine lld J ?_|((first|refine lbx J ?_|refine lal J ?_|refine lbs J ?_);clear J;intro R i J)|(refine zc J ?_;clear J;intro i J))
     (try simp only[Exit.inBlock,Exit.then]);refine rt1 ?_
     exact⟨by rw[U.out],J.below⟩
    | false=>
     have U:=za (show J8 ⟨ad,⟨false,o,j⟩,P,ac,⟨sp,t,C⟩⟩=⟨false,⟨false,o,j⟩,P,false,⟨sp,t,C⟩⟩ from p.out.trans (by rw[af,ag];rfl));clear p;have J:=Loc.start w;go_enter func160,ntmps160;go_upto_region 2 with(with_reducible first|refine lld J ?_|((first|refine lbx J ?_|refine lal J ?_|refine lbs J ?_);clear J;intro R i J)|(refine zc J ?_;clear J;intro i J))
     refine zb [6,7,8,9,5] ?_
     iterate 2 refine qdv ?_
     refine qdk J (fun _ T J=>yv _ _ _) ?_;refine' j2 J ?_ ?_;rotate_left
     ·intro g w T J _ q;simp only[aG]at q;simp only[fD];simp only[q]
      refine Qa (a:=⟨false,o,j⟩) (b:=⟨false,0,0⟩) rfl rfl aa.out ?_;go_wp2;exact cY
     refine qdv ?_;refine dnd J ?_;clear J;intro ae J;simp only[zr,sTa,sTb];go_wp2_with (with_reducible first|refine lld J ?_|((first|refine lbx J ?_|refine lal J ?_|refine lbs J ?_);clear J;intro R i J)|(refine zc J ?_;clear J;intro i J))
     (try simp only[Exit.inBlock,Exit.then]);refine rt1 ?_
     exact⟨by rw[U.out],J.below⟩
theorem zau (g:Gu) (w:World):Calls prog 161 #[g.v] w fun e p=>e=.returned (Kj g).v∧Below w.heap.size w p:=by
 obtain⟨R,⟨o,j,i⟩,ad,P,⟨sp,ab,ac⟩⟩:=g;have C:=za (fun p=>VQ ⟨o,j,i⟩ ⟨false,0,0⟩ p);have I:=za (show Kj ⟨R,⟨o,j,i⟩,ad,P,⟨sp,ab,ac⟩⟩=⟨R,q4 ⟨o,j,i⟩ ⟨false,0,0⟩,false,P,zi⟩ from rfl);generalize q4 ⟨o,j,i⟩ ⟨false,0,0⟩=U at C I;obtain⟨ae,af,ag⟩:=U;have J:=Loc.start w;go_enter func161,ntmps161;go_upto_region 2 with(with_reducible first|refine lld J ?_|((first|refine lbx J ?_|refine lal J ?_|refine lbs J ?_);clear J;intro T t J)|(refine zc J ?_;clear J;intro t J))
 refine zb [5,6,7,8,9] ?_
 iterate 2 refine qdv ?_
 refine qdk J (fun _ aa J=>yv _ _ _) ?_;refine qdk J (fun _ aa J=>C.out _) ?_;refine qdv ?_;refine dnd J ?_;clear J;intro ah J;simp only[zr,sTa,sTb];go_wp2_with (with_reducible first|refine lld J ?_|((first|refine lbx J ?_|refine lal J ?_|refine lbs J ?_);clear J;intro T t J)|(refine zc J ?_;clear J;intro t J))
 (try simp only[Exit.inBlock,Exit.then]);refine rt1 ?_
 exact⟨by rw[I.out],J.below⟩
abbrev jV (d:Res):Res:=⟨false,ji d.span,d.tr,false,d.l⟩
abbrev yc (d:Res):Res:=⟨d.null,q4 d.span ⟨false,0,0⟩,false,d.fa,[]⟩
abbrev Kk:Res:=⟨false,zA,false,false,[]⟩
def Pd.setVar (d:Pd) (k:Nat) (g:Res):Pd:={ d with vars:=d.vars.set k g }
def Pd.setField (d:Pd) (i j:Nat) (g:Res):Pd:={ d with fields:=d.fields.set i ((d.row i).set j g) }
def Pd.setRow (d:Pd) (i:Nat) (l:List Res):Pd:={ d with fields:=d.fields.set i l }
def qZ (i:Ins):Res:=
 if i.kind=1 then ⟨false,⟨false,i.n,i.n⟩,false,false,[]⟩ else if i.kind=14 then ⟨false,⟨false,-i.n,i.n⟩,false,false,[]⟩ else if i.kind=2 then ⟨false,zA,i.n==1,i.n==0,[]⟩ else if i.kind=3 then ⟨true,zA,false,false,[]⟩ else Kk
def jJ (g:Res):Bool:=g.null || g.tr || g.fa || !g.span.none
def qQ (d:Pd) (n:Nat) (l:List Int):Res:=l.foldl (fun g s=>qx both g (d.field s.toNat n)) Kk
def yM (d:Pd) (n:Nat) (b:Res) (l:List Int):Pd:=l.foldl (fun x s=>x.setField s.toNat n (qx both (x.field s.toNat n) b)) d
def K5 (d:Pd) (at' k:Nat):Pd:=(d.setVar k ⟨false,zA,false,false,[(at' : Int)]⟩).setRow at' ((d.row at').map fun g=>{ g with null:=true })
structure zav where
 es:List (Int × Pd)
 wr:Bool
 fl:Bool
def jK (d:Pd) (at' : Int) (k:Nat) (g:Res):List (Int × Pd):=if qD g=true then [] else [(at' + 1,d.setVar k g)]
def zJ (i:Ins) (at' : Nat) (d:Pd):zav:=
 if i.kind=1∨i.kind=14∨i.kind=2∨i.kind=3 then ⟨jK d at' i.to.toNat (qZ i),false,false⟩
 else if i.kind=11 then ⟨[((at' : Int)+1,K5 d at' i.to.toNat)],false,false⟩
 else if i.kind=12 then ⟨jK d at' i.to.toNat (qQ d i.n.toNat (d.var i.a.toNat).l),jJ (d.var i.a.toNat),false⟩
 else if i.kind=13 then ⟨if (d.var i.a.toNat).l=[] then [] else [((at' : Int)+1,yM d i.n.toNat (d.var i.b.toNat) (d.var i.a.toNat).l)],jJ (d.var i.a.toNat),false⟩
 else if i.kind=15 then ⟨(if Jf ((d.var i.a.toNat).gu ⟨none,(d.var i.a.toNat).l.length,0⟩)=true then [(i.goto,d.setVar i.a.toNat (jV (d.var i.a.toNat)))] else [])++(if noG ((d.var i.a.toNat).gu zi)=true then [((at' : Int)+1,d.setVar i.a.toNat (yc (d.var i.a.toNat)))] else []),false,false⟩
 else if i.kind=17 then ⟨if Jf ((d.var i.a.toNat).gu ⟨none,(d.var i.a.toNat).l.length,0⟩)=true then [((at' : Int)+1,d.setVar i.a.toNat (jV (d.var i.a.toNat)))] else [],false,noG ((d.var i.a.toNat).gu zi)⟩
 else if i.kind=16 then ⟨[(i.goto,d)],false,false⟩
 else if i.kind=18 then ⟨[((at' : Int)+1,d)],false,false⟩
 else if i.kind=19 then ⟨[],false,false⟩
 else ⟨jK d at' i.to.toNat (qL i.kind ((d.var i.a.toNat).gu ⟨none,(d.var i.a.toNat).l.length,0⟩) ((d.var i.b.toNat).gu ⟨none,(d.var i.b.toNat).l.length,0⟩) (d.var i.a.toNat).l (d.var i.b.toNat).l).1,
  (qL i.kind ((d.var i.a.toNat).gu ⟨none,(d.var i.a.toNat).l.length,0⟩) ((d.var i.b.toNat).gu ⟨none,(d.var i.b.toNat).l.length,0⟩) (d.var i.a.toNat).l (d.var i.b.toNat).l).2,false⟩
structure EdV where
 go:Int
 x:Pv
abbrev EdV.cells (e:EdV):List Value:=[.int .i64 e.go,.bool e.x.none,.slice e.x.vars.p e.x.vars.n e.x.vars.cap,.slice e.x.fields.p e.x.fields.n e.x.fields.cap]
theorem zgE (e:EdV):(EdV.cells e).length=4:=rfl
abbrev Qu:EdV:=⟨0,Ks⟩
structure j8 (w:World) (evs:List EdV) (es:List (Int × Pd)):Prop where
 len:evs.length=es.length
 at' : ∀ k,k<es.length->(evs.getD k Qu).go=(es.getD k (0,Qc)).1∧zq w (evs.getD k Qu).x (es.getD k (0,Qc)).2
theorem j8.nil (w:World):j8 w [] []:=⟨rfl,fun k g=>absurd g (Nat.not_lt_zero k)⟩
theorem j8.snoc {w:World}{i:List EdV}{es:List (Int × Pd)}(h:j8 w i es) {go:Int}{x:Pv}{d:Pd}(o:zq w x d):j8 w (i++[⟨go,x⟩]) (es++[(go,d)]):=by
 refine⟨by simp[h.len],fun k j=>?_⟩;rw[List.length_append]at j;rcases Nat.lt_or_ge k es.length with g|g
 ·rw[QU (by rw[h.len];exact g),QU g]
  exact h.at' k g
 ·have p : k<es.length+1:=by simpa using j
  obtain rfl:k=es.length:=by omega
  rw[yN (by rw[h.len];exact Nat.le_refl _),yN (Nat.le_refl _),h.len,Nat.sub_self];exact⟨rfl,o⟩
abbrev stC (i:Ins) (at' : Nat) (x:Pv) (es:Sl) (wr fl:Bool):List Value:=[.int .i64 i.kind,.int .i64 i.to,.int .i64 i.a,.int .i64 i.b,.int .i64 i.n,.int .i64 i.goto,.int .i64 at',.bool x.none,.slice x.vars.p x.vars.n x.vars.cap,.slice x.fields.p x.fields.n x.fields.cap,.slice es.p es.n es.cap,.bool wr,.bool fl]
def Stp (w0:World) (o:Nat) (i:Ins) (at' : Nat) (x:Pv) (es:List (Int × Pd)) (wr t:Bool) (A:List zg) (D:List zl) (w:World):Prop:=
 ∃ (s:Sl) (j:List EdV) (g:List zg),zB 75 4 s.p s.n s.cap (j.flatMap EdV.cells) g∧Loc w0 w ((o,153,stC i at' x s wr t)::(A++g)) ((fun w=>j8 w j es)::D)
theorem jm:jy prog 151:=⟨by kernel_rfl,by kernel_rfl⟩
def zhT (w0:World) (C:Nat) (r:Pv) (d:Pd) (t:Nat) (P:List Value) (A N:List zg) (D:List zl) (w:World):Prop:=
 ∃ (p:List Gu) (o:List (List Gu)) (I:List Sl) (j i g:List zg),VI r p o I j i g∧Loc w0 w ((C,54,r.cells)::(t,153,P)::(A++((j++(g++i))++N))) (zH p o d.vars d.fields::D)
def Vr (w0:World) (o:Nat) (i:Ins) (at' : Nat) (x:Pv) (wr p:Bool) (A:List zg) (D:List zl) (K:FuncId) (t:List Value) (d C : Pd):Prop:=
 ∀ (j:Nat) (r:Pv) (s:Sl) (N:List zg) (g:List zl) (w:World),(∀ S∈D,S∈g)->r.none=false->zhT w0 j r d o (stC i at' x s wr p) A N g w->
  Calls prog K (Value.pointer (some ⟨j,0,none⟩)::t).toArray w fun e I=>e=.returned (.tuple #[])∧zhT w0 j r C o (stC i at' x s wr p) A N g I
theorem zaw (X:zg) (Y:zg) (A E P:List zg):(X::(Y::(A++(P++E)))).Perm ((X::(Y::(A++E)))++P):=by
 refine(List.Perm.cons X (List.Perm.cons Y ?_));show (A++(P++E)).Perm ((A++E)++P)
 rw[List.append_assoc];exact List.Perm.append_left A List.perm_append_comm
theorem JR (w0:World) (bs:Nat) (i:Ins) (at' : Nat) (x:Pv) (d o : Pd) (es:List (Int × Pd)) (wr af:Bool) (A:List zg) (D:List zl) (w:World) (go:Int) (K:FuncId) (a2:List Value) (ak:∀ args w,(callFunc K args).run prog w=.ok (.enter K args) w)
  (h:Stp w0 bs i at' x es wr af A D w) (aF:zq w0 x d) (aj:d.none=false) (a8:ju d) (aD:zW both d d=d) (aC : o.none=false) (aB:o.vars.length+o.fields.length<=9223372036854775807) (bb:es.length<=10)
  (a9:Vr w0 bs i at' x wr af A D K a2 d o):
  Calls prog 162 #[.pointer (some ⟨bs,0,none⟩),.int .i64 go,.func (.func K) #[] a2.toArray] w fun e ac=>e=.returned (.tuple #[])∧Stp w0 bs i at' x (es++[(go,o)]) wr af A D ac:=by
 obtain⟨s,ae,Re,t,J⟩:=h;have al:=fun ac (T:Below w0.heap.size w0 ac)=>VJ x d ac (aF.grow T) a8 aj
 rw[aD]at al;have bf:=t.flatlen zgE (by decide);have aZ:=(J.get (S:=fun w=>j8 w ae es) List.mem_cons_self).len;have ar:=za al;have aq:=za a9;have aL:=za t;have aK:=za aj;have ai:=za (And.intro aC (And.intro aB (show s.n<=10 by omega)));clear al a9 t aF aj a8 aD aC aB bb bf aZ;obtain⟨bv,⟨bw,bx,br⟩,⟨bu,bt,xfc⟩⟩:=x;obtain⟨sp,ah,an⟩:=s;obtain⟨bl,bn,bi,bj,bm,bk⟩:=i;go_enter func162,ntmps162;go_upto_region 1 with(first|(with_reducible first|(refine lal J ?_;clear J;intro ad C J)|refine lld J ?_|((first|refine lbx J ?_|refine lal J ?_|refine lbs J ?_);clear J;intro aN C J)|(refine zc J ?_;clear J;intro C J))|(go_at_call 102;refine(ar.out _ J.below).mono ?_;rintro q aJ ⟨⟨aI,⟨ab,aa,U⟩,⟨P,fn,I⟩⟩,rfl,aR,aQ,bq,ay,aw,au,aE,a4,aA⟩;replace J:=J.gave aA;simp only[List.cons_append]at J;clear aA;dsimp only))
 have bd:aI=false:=by rw[show aI=d.none from aE];exact aK.out
 subst bd;have a6:zhT w0 ad ⟨false,⟨ab,aa,U⟩,⟨P,fn,I⟩⟩ d bs (stC ⟨bl,bn,bi,bj,bm,bk⟩ at' ⟨bv,⟨bw,bx,br⟩,⟨bu,bt,xfc⟩⟩ ⟨sp,ah,an⟩ wr af) A Re ((fun w=>j8 w ae es)::D) C:=
  ⟨aR,aQ,bq,ay,aw,au,a4,J.perm (zaw _ _ A Re (ay++(au++aw)))⟩
 have a7:=aq.out ad ⟨false,⟨ab,aa,U⟩,⟨P,fn,I⟩⟩ ⟨sp,ah,an⟩ Re ((fun w=>j8 w ae es)::D) C (fun S aW=>List.mem_cons_of_mem _ aW) rfl a6;have ao:=za a7;clear a7 a6 a4 J aq ar aE;go_upto_region 2 with((with_reducible refine ao.out.mono ?_);rintro e aJ ⟨rfl,aV⟩;clear ao;dsimp only)
 obtain⟨b0,bz,b1,az,ax,av,a5,J⟩:=aV;have ag:=J.perm (zaw _ _ A Re (az++(av++ax))).symm;replace J:=ag.facts (S:=fun w=>zq w ⟨false,⟨ab,aa,U⟩,⟨P,fn,I⟩⟩ o) (fun ac bc bg=>a5.is (B:=w0.heap.size) ⟨((List.sublist_append_right ((ad,54,_)::(bs,153,_)::(A++Re)) (az++(av++ax))).map (fun e:zg=>e.1)).nodup ag.nodup,fun e ak=>⟨ag.ids e (List.mem_append_right _ ak),bc e ak⟩⟩ bg ai.out.1.symm ai.out.2.1);clear a5 ag;have aT:=ai.out.2.2;dsimp only at aT;obtain⟨b4,bh⟩:∃ x,x=aJ:=⟨_,rfl⟩;subst bh;refine zb [14,15,16,17,18,19,20,21,22] ?_
 iterate 8 refine qdv ?_
 refine qdw ?_;refine de1 0 J ?_ ?_
 ·(refine yj rfl rfl ?_;intro g w T G;(try simp[zD,List.filter_cons,Region.binds,j7,RAt]at G);simp only[fD];(try simp only[G]);exact⟨_,.inl ⟨rfl,fun w=>(by go_simp<;>(try (split<;>(rename_i be;simp[be,cnd]))))⟩,rfl⟩)
 intro g b2 T t q;simp only[aG]at q;obtain⟨a0,aH,a3,a1⟩:=qye t 8;clear t;simp only[fD];simp only[q,a3];clear q a3;replace J:=J.more1 T aH a1;clear aH a1;clear T;go_wp2_with (first|(refine zF (p:=sp) (n:=ah) (cap:=an) (z:=[.int .i64 0,.bool false,.slice none 0 0,.slice none 0 0]) (K:=(ad,_,_)::(bs,_,_)::A) (R:=Re) (news:=EdV.cells ⟨go,⟨false,⟨ab,aa,U⟩,⟨P,fn,I⟩⟩⟩) aL.out J (by simp only[List.cons_append];rfl) rfl rfl V6 zdh (by decide) rfl (fun _=>⟨⟨a0,0,none⟩,rfl,fun j u ba=>by rw[zG,Nat.zero_add];exact zP (J.get (S:=y6 a0 _ _) List.mem_cons_self) j ba⟩) rfl (by simp[Value.oneCell']) (by have:maxLen=9223372036854775807:=rfl;omega) (by omega) ?_;clear J;intro bp aO aM b3 aY J;simp only[List.cons_append]at J)|(with_reducible first|refine lld J ?_|((first|refine lbx J ?_|refine lal J ?_|refine lbs J ?_);clear J;intro aN C J)|(refine zc J ?_;clear J;intro C J)))
 (try simp only[Exit.inBlock,Exit.then]);(first|refine qv rfl rfl ?_|refine qw rfl rfl ?_)
 refine⟨rfl,⟨bp,ah+1,aO⟩,ae++[⟨go,⟨false,⟨ab,aa,U⟩,⟨P,fn,I⟩⟩⟩],aM,by simpa using aY,?_⟩;exact(J.drop (List.sublist_cons_self _ _) (fun _ h=>List.mem_cons_of_mem _ h)).both (fun w aS aU=>aU.snoc aS)
theorem qs {g:Type}(l:List g) (k j:Nat) (v d:g) (hk:k<l.length):(l.set k v).getD j d=if j=k then v else l.getD j d:=by
 simp only[List.getD_eq_getElem?_getD,List.getElem?_set];by_cases h:k=j
 ·subst h;simp[hk]
 ·rw[if_neg h,if_neg (Ne.symm h)]
theorem zN.set {w:World}{gl:List Gu}{ds:List Res}(h:zN w gl ds) {k:Nat}(hk:k<ds.length) {g:Gu}{d:Res}(o:ql w g d):zN w (gl.set k g) (ds.set k d):=by
 refine⟨by simp[h.len],fun j p=>?_⟩;have t : j<ds.length:=by simpa using p
 rw[qs _ _ _ _ _ (by rw[h.len];exact hk),qs _ _ _ _ _ hk];by_cases i:j=k
 ·rw[if_pos i,if_pos i];exact o
 ·rw[if_neg i,if_neg i];exact h.at' j t
theorem Kl (X Y U V Z:zg) (A P N:List zg):(X::Y::U::V::(A++(([Z]++P)++N))).Perm (X::Y::U::V::Z::(A++(P++N))):=by
 refine((((?_:(A++(([Z]++P)++N)).Perm (Z::(A++(P++N)))).cons V).cons U).cons Y).cons X;exact List.perm_middle
theorem zdS (w0:World) (aj ah ai:Nat) (i:Ins) (at' : Nat) (x:Pv) (wr az:Bool) (A:List zg) (D:List zl) (d:Pd) (k:Nat) (g:Gu) (j:Res) (hi:i.to=k) (hk:k<d.vars.length) (an:(fun w=>ql w g j)∈D):
  Vr w0 aj i at' x wr az ((ah,108,g.cells)::(ai,151,[.pointer (some ⟨aj,0,none⟩)])::A) D 195 [.pointer (some ⟨ah,0,none⟩),.pointer (some ⟨ai,0,none⟩)] d (d.setVar k j):=by
 intro aE r s N ag w aw av a3;obtain⟨ab,aa,aA,aC,ae,ad,o,J⟩:=a3;have ao:=(J.get (S:=zH ab aa d.vars d.fields) List.mem_cons_self).1;have a7:=o.vars.flatlen jb (by decide);have a4:=ao.len;obtain⟨ak,af,au,rfl,a8,aq⟩:=o.vars.block (by omega);have ac:=o.vars.put jb zI (k:=k) (by omega) g;have a6:=o.vars.fits;have a5:k<r.vars.n:=by omega
 have ay:=za (show k*7+g.cells.length<=af.length by show k*7+7<=_;rw[aq];omega);have ax:=za (And.intro o ac);have ar:(fun w=>ql w g j)∈ag:=aw _ an;replace J:=(J.perm (Kl _ _ _ _ _ A (ad++ae) N).symm).drop (List.Sublist.refl _) (D':=zH ab aa d.vars d.fields::(fun w=>ql w g j)::ag) (by
  intro S T;rcases List.mem_cons.1 T with rfl|T
  ·exact List.mem_cons_self
  ·rcases List.mem_cons.1 T with rfl|T
   ·exact List.mem_cons_of_mem _ ar
   ·exact List.mem_cons_of_mem _ T)
 clear o ac a7 a4 a8 aq a6 ao ar aw an;obtain⟨aP,⟨aS,aR,aQ⟩,⟨aH,fn,aF⟩⟩:=r;obtain⟨aM,aO,aJ,aK,aN,aL⟩:=i;obtain⟨I,⟨R,C,t⟩,gt,p,⟨P,gk,gc⟩⟩:=g;dsimp only at au hi a5 av;subst au hi av;go_enter func195,ntmps195;obtain⟨aV,a9⟩:∃ x,x=w:=⟨_,rfl⟩;subst a9;refine zb [4,5,6,7,8,9,10,11,12,13,14] ?_
 iterate 4 refine qdv ?_
 refine yz jm ?_
 iterate 6 refine qdv ?_
 refine dnd J ?_;clear J;intro aU J;simp only[zr,sTa,sTb];go_wp2_with (first|(refine zR (b:=ak) (off:=k*7) (vs:=Gu.cells ⟨I,⟨R,C,t⟩,gt,p,⟨P,gk,gc⟩⟩) (cs':=zj af (k*7) (Gu.cells ⟨I,⟨R,C,t⟩,gt,p,⟨P,gk,gc⟩⟩)) J rfl rfl cIn rfl zO.sz rfl ay.out rfl ?_;clear J;intro aT J)|(with_reducible first|refine lld J ?_|((first|refine lbx J ?_|refine lal J ?_|refine lbs J ?_);clear J;intro aD aB J)|(refine zc J ?_;clear J;intro aB J)))
 (try simp only[Exit.inBlock,Exit.then]);(first|refine qv rfl rfl ?_|refine qw rfl rfl ?_)
 obtain⟨⟨aI,a0,a1⟩,ac⟩:=ax.out;refine⟨rfl,ab.set k ⟨I,⟨R,C,t⟩,gt,p,⟨P,gk,gc⟩⟩,aa,aA,[(ak,108,zj af (k*7) (Gu.cells ⟨I,⟨R,C,t⟩,gt,p,⟨P,gk,gc⟩⟩))],ae,ad,⟨ac,a0,a1⟩,?_⟩;exact((J.perm (Kl _ _ _ _ _ A (ad++ae) N)).both (U:=zH (ab.set k ⟨I,⟨R,C,t⟩,gt,p,⟨P,gk,gc⟩⟩) aa (d.setVar k j).vars (d.setVar k j).fields) fun w al a2=>⟨al.1.set hk a2,al.2⟩)
structure qV (w0:World) (x:Pv) (d:Pd):Prop where
 x:zq w0 x d
 n:d.none=false
 few:ju d
 own:zW both d d=d
 m:d.vars.length+d.fields.length<=9223372036854775807
theorem Stp.drop2 {w0:World}{g:Nat}{i:Ins}{at' : Nat}{x:Pv}{es:List (Int × Pd)}{wr j:Bool}{A:List zg}{U V:zg}{D:List zl}{w:World}(h:Stp w0 g i at' x es wr j (U::V::A) D w):Stp w0 g i at' x es wr j A D w:=by
 obtain⟨s,p,o,t,J⟩:=h;exact⟨s,p,o,t,J.drop (.cons_cons _ (.cons _ (.cons _ (List.Sublist.refl _)))) (fun _ h=>h)⟩
theorem Stp.push2 {w0:World}{o:Nat}{i:Ins}{at' : Nat}{x:Pv}{wr t:Bool}{A:List zg}{U V:zg}{D:List zl}{w:World}{s:Sl}{j:List EdV}{g:List zg}{es:List (Int × Pd)}(C:zB 75 4 s.p s.n s.cap (j.flatMap EdV.cells) g)
  (J:Loc w0 w (U::V::(o,153,stC i at' x s wr t)::(A++g)) ((fun w=>j8 w j es)::D)):Stp w0 o i at' x es wr t (U::V::A) D w:=by
 refine⟨s,j,g,C,J.perm ?_⟩;exact(List.Perm.swap _ _ _).trans ((List.Perm.swap _ _ _).cons _)
theorem zgF:∀ args w,(callFunc 195 args).run prog w=.ok (.enter 195 args) w:=fun args w=>by kernel_rfl
theorem JS (w0:World) (p:Nat) (i:Ins) (at' : Nat) (x:Pv) (d:Pd) (es:List (Int × Pd)) (wr I:Bool) (A:List zg) (D:List zl) (w:World) (k:Nat) (g:Gu) (j:Res)
  (h:Stp w0 p i at' x es wr I A D w) (ok:qV w0 x d) (hi:i.to=k) (hk:k<d.vars.length) (aa:(fun w=>ql w g j)∈D) (ao:es.length<=10) (ha:at'<=1000000):
  Calls prog 153 #[.pointer (some ⟨p,0,none⟩),g.v] w fun e ac=>e=.returned (.tuple #[])∧Stp w0 p i at' x (es++jK d at' k j) wr I A D ac:=by
 obtain⟨s,an,aj,ag,J⟩:=h;have ab:=J.get (S:=fun w=>ql w g j) (List.mem_cons_of_mem _ aa);have R:=fun ac=>j1 g ac
 have ah:qb g=qD j:=by
  have U:=ab.e;rw[U];exact QT ab.l.n
 rw[ah]at R;have ad:=za (fun (t C:Nat) (o:World) (U:Stp w0 p i at' x es wr I ((t,108,g.cells)::(C,151,[.pointer (some ⟨p,0,none⟩)])::A) D o)=>JR w0 p i at' x d (d.setVar k j) es wr I _ D o ((at' : Int)+1) 195 [.pointer (some ⟨t,0,none⟩),.pointer (some ⟨C,0,none⟩)] zgF U ok.x ok.n ok.few ok.own ok.n (by show (d.vars.set k j).length+d.fields.length<=_;rw[List.length_set];exact ok.m) ao (zdS w0 p t C i at' x wr I A D d k g j hi hk aa));have af:=za ag;have T:=za (show jK d at' k j=if qD j=true then [] else [((at' : Int)+1,d.setVar k j)] from rfl);clear ag ok ab ah;generalize qD j=al at R T;have ae:=za R;clear R aa;obtain⟨az,⟨a1,ay,ax⟩,gt,aw,⟨a0,gk,gc⟩⟩:=g;obtain⟨a5,a7,a2,a3,a6,a4⟩:=i;dsimp only at hi;subst hi;obtain⟨aE,⟨aF,aH,aA⟩,⟨aD,aC,aB⟩⟩:=x;obtain⟨sp,au,ar⟩:=s;cases al with
 | true=>
  go_enter func153,ntmps153;go_wp2_with (first|(with_reducible first|refine lld J ?_|((first|refine lbx J ?_|refine lal J ?_|refine lbs J ?_);clear J;intro ak o J)|(refine zc J ?_;clear J;intro o J))|(go_at_call 147;refine cg J (ae.out _) ?_;clear J;intro o J;dsimp only))
  (try simp only[Exit.inBlock,Exit.then]);(first|refine qv rfl rfl ?_|refine qw rfl rfl ?_)
  refine⟨rfl,?_⟩;rw[T.out];simp only[if_true,List.append_nil];exact⟨⟨sp,au,ar⟩,an,aj,af.out,J.drop (.cons _ (.cons _ (List.Sublist.refl _))) (fun _ h=>h)⟩
 | false=>
  go_enter func153,ntmps153;go_step;go_step;go_step
  ((with_reducible refine lbx J ?_);clear J;intro C o J)
  ((with_reducible refine lbx J ?_);clear J;intro t o J)
  go_upto_region 2 with(first|(with_reducible first|refine lld J ?_|((first|refine lbx J ?_|refine lal J ?_|refine lbs J ?_);clear J;intro ak o J)|(refine zc J ?_;clear J;intro o J))|(go_at_call 147;refine cg J (ae.out _) ?_;clear J;intro o J;dsimp only))
  obtain⟨a9,aq⟩:∃ x,x=o:=⟨_,rfl⟩;subst aq;refine zb [7,8,9,10,11,12,13] ?_;refine yz jm ?_;refine yz jm ?_
  iterate 5 refine qdv ?_
  refine dnd J ?_;clear J;intro av J;simp only[zr,sTa,sTb];have P:=ad.out t C av (Stp.push2 af.out J);have ai:=za P;clear P ad;go_wp2_with (go_at_call 162;refine ai.out.mono ?_;rintro e a8 ⟨rfl,P⟩;dsimp only)
  (try simp only[Exit.inBlock,Exit.then]);(first|refine qv rfl rfl ?_|refine qw rfl rfl ?_)
  refine⟨rfl,?_⟩;rw[T.out];simpa using P.drop2
theorem zax (w0 w:World) (i:List zg) (D:List zl) (K:FuncId) (P:List Value) (R:Res) (ai:∀ args w,(callFunc K args).run prog w=.ok (.enter K args) w) (J:Loc w0 w i D)
  (U:∀ (p:Nat) (N:List zg) (g:World),Loc w0 g ((p,108,qn.cells)::(i++N)) D->Calls prog K (Value.pointer (some ⟨p,0,none⟩)::P).toArray g fun e t=>e=.returned (.tuple #[])∧∃ j:Gu,Loc w0 t ((p,108,j.cells)::(i++N)) ((fun w=>ql w j R)::D)):
  Calls prog 196 #[.func (.func K) #[] P.toArray] w fun e t=>∃ j:Gu,e=.returned j.v∧Loc w0 t i ((fun w=>ql w j R)::D):=by
 have I:=za U;clear U;go_enter func196,ntmps196;go_upto_region 1 with((with_reducible refine lal J ?_);clear J;intro o g J)
 go_upto_region 2 with(first|(with_reducible first|(refine lal J ?_;clear J;intro aa g J)|refine lld J ?_|((first|refine lbx J ?_|refine lal J ?_|refine lbs J ?_);clear J;intro ab g J)|(refine zc J ?_;clear J;intro g J))|(go_at_call 136;refine cg J (ja _) ?_;clear J;intro g J;dsimp only))
 have T:=I.out aa [(o,108,[.bool false,.bool false,.int .i64 0,.int .i64 0,.bool false,.bool false,.slice none 0 0])] g (J.perm ((List.perm_append_comm (l₁:=i) (l₂:=[(o,108,_)])).cons _));have C:=za T;clear T J I;go_upto_region 3 with((with_reducible refine C.out.mono ?_);rintro e aj ⟨rfl,⟨af,⟨ah,ae,ad⟩,gt,ac,⟨ag,gk,gc⟩⟩,J⟩;clear C;dsimp only)
 replace J:=J.perm ((List.perm_append_comm (l₁:=[(o,108,_)]) (l₂:=i)).cons _);simp only[aX]at J;go_wp2_with (with_reducible first|refine lld J ?_|((first|refine lbx J ?_|refine lal J ?_|refine lbs J ?_);clear J;intro ab g J)|(refine zc J ?_;clear J;intro g J))
 (try simp only[Exit.inBlock,Exit.then]);refine rt1 ?_
 exact⟨⟨af,⟨ah,ae,ad⟩,gt,ac,⟨ag,gk,gc⟩⟩,rfl,J.drop (.cons _ (.cons _ (List.Sublist.refl _))) (fun _ h=>h)⟩
theorem ze7 : ∀ args w,(callFunc 197 args).run prog w=.ok (.enter 197 args) w:=fun args w=>by kernel_rfl
theorem zbU (w0:World) (T R I:Nat) (U:zg) (i:Ins) (at' : Nat) (x:Pv) (s:Sl) (wr ab:Bool) (X:List zg) (D:List zl) (w:World) (hk:i.kind=1∨i.kind=14∨i.kind=2∨i.kind=3) (ad:-2147483648<=i.n∧i.n<=2147483647)
  (J:Loc w0 w ((T,108,qn.cells)::U::(R,151,[.pointer (some ⟨I,0,none⟩)])::(I,153,stC i at' x s wr ab)::X) D):
  Calls prog 197 #[.pointer (some ⟨T,0,none⟩),.pointer (some ⟨R,0,none⟩)] w fun e P=>e=.returned (.tuple #[])∧∃ t:Gu,Loc w0 P ((T,108,t.cells)::U::(R,151,[.pointer (some ⟨I,0,none⟩)])::(I,153,stC i at' x s wr ab)::X) ((fun w=>ql w t (qZ i))::D):=by
 obtain⟨ak,al,ah,ai,p,aj⟩:=i;obtain⟨aw,⟨ax,ay,aq⟩,⟨av,au,ar⟩⟩:=x;obtain⟨sp,ao,an⟩:=s;dsimp only at hk ad;obtain⟨af,ag⟩:=ad;rcases hk with rfl|rfl|rfl|rfl
 ·go_enter func197,ntmps197
  go_upto_region 2 with(with_reducible first|refine ldO (zn.cell jm rfl) J ?_|refine lld J ?_|((first|refine lbx J ?_|refine lal J ?_|refine lbs J ?_);clear J;intro j g J)|(refine zc J ?_;clear J;intro g J))
  obtain⟨ae,C⟩:∃ x,x=w:=⟨_,rfl⟩;subst C;refine zb [10,11,12,13,14,15,16,17,18,19,20,21,22,23] ?_;refine qdv ?_;refine yz jm ?_
  iterate 4 refine qdv ?_
  refine yz jm ?_
  iterate 4 refine qdv ?_
  refine qdk J (fun _ o J=>yv _ _ _) ?_
  iterate 2 refine qdv ?_
  refine dnd J ?_;clear J;intro P J;simp only[zr,sTa,sTb];go_wp2_with (with_reducible first|refine ldO (zn.cell jm rfl) J ?_|refine lld J ?_|((first|refine lbx J ?_|refine lal J ?_|refine lbs J ?_);clear J;intro j g J)|(refine zc J ?_;clear J;intro g J))
  (try simp only[Exit.inBlock,Exit.then]);(first|refine qv rfl rfl ?_|refine qw rfl rfl ?_)
  exact⟨rfl,⟨false,⟨false,p,p⟩,false,false,zi⟩,J.pure (fun w=>⟨rfl,zk.nil w⟩)⟩
 ·go_enter func197,ntmps197
  go_upto_region 4 with(with_reducible first|refine ldO (zn.cell jm rfl) J ?_|refine lld J ?_|((first|refine lbx J ?_|refine lal J ?_|refine lbs J ?_);clear J;intro j g J)|(refine zc J ?_;clear J;intro g J))
  obtain⟨ae,C⟩:∃ x,x=w:=⟨_,rfl⟩;subst C;refine zb [26,27,28,29,30,31,32,33,34,35,36,37,38,39,40] ?_;refine qdv ?_;refine yz jm ?_
  iterate 5 refine qdv ?_
  refine yz jm ?_
  iterate 4 refine qdv ?_
  refine qdk J (fun _ o J=>yv _ _ _) ?_
  iterate 2 refine qdv ?_
  refine dnd J ?_;clear J;intro P J;simp only[zr,sTa,sTb];go_wp2_with (with_reducible first|refine ldO (zn.cell jm rfl) J ?_|refine lld J ?_|((first|refine lbx J ?_|refine lal J ?_|refine lbs J ?_);clear J;intro j g J)|(refine zc J ?_;clear J;intro g J))
  (try simp only[Exit.inBlock,Exit.then]);(first|refine qv rfl rfl ?_|refine qw rfl rfl ?_)
  exact⟨rfl,⟨false,⟨false,-p,p⟩,false,false,zi⟩,J.pure (fun w=>⟨rfl,zk.nil w⟩)⟩
 ·go_enter func197,ntmps197
  go_upto_region 6 with(with_reducible first|refine ldO (zn.cell jm rfl) J ?_|refine lld J ?_|((first|refine lbx J ?_|refine lal J ?_|refine lbs J ?_);clear J;intro j g J)|(refine zc J ?_;clear J;intro g J))
  obtain⟨ae,C⟩:∃ x,x=w:=⟨_,rfl⟩;subst C;refine zb [43,44,45,46,47,48,49,50,51,52,53,54,55,56,57,58] ?_
  iterate 2 refine qdv ?_
  refine yz jm ?_
  iterate 5 refine qdv ?_
  refine yz jm ?_
  iterate 7 refine qdv ?_
  refine deF [1,13] J ?_ ?_
  ·intro i ac;simp only[List.mem_cons,List.not_mem_nil,or_false]at ac;rcases ac with rfl|rfl
   ·(refine yj rfl rfl ?_;intro t w o G;(try simp[zD,List.filter_cons,Region.binds,j7,RAt]at G);simp only[fD];(try simp only[G]);exact⟨_,.inl ⟨rfl,fun w=>(by go_simp<;>(try (split<;>(rename_i aa;simp[aa,cnd]))))⟩,rfl⟩)
   ·(refine yj rfl rfl ?_;intro t w o G;(try simp[zD,List.filter_cons,Region.binds,j7,RAt]at G);simp only[fD];(try simp only[G]);exact⟨_,.inl ⟨rfl,fun w=>(by go_simp<;>(try (split<;>(rename_i aa;simp[aa,cnd]))))⟩,rfl⟩)
  intro t P o _ q;simp only[aG]at q;simp only[fD];simp only[q];clear q;replace J:=J.grow o;clear o;go_wp2_with (with_reducible first|refine ldO (zn.cell jm rfl) J ?_|refine lld J ?_|((first|refine lbx J ?_|refine lal J ?_|refine lbs J ?_);clear J;intro j g J)|(refine zc J ?_;clear J;intro g J))
  (try simp only[Exit.inBlock,Exit.then]);(first|refine qv rfl rfl ?_|refine qw rfl rfl ?_)
  exact⟨rfl,⟨false,zA,p==1,p==0,zi⟩,J.pure (fun w=>⟨rfl,zk.nil w⟩)⟩
 ·go_enter func197,ntmps197
  go_wp2_with (with_reducible first|refine ldO (zn.cell jm rfl) J ?_|refine lld J ?_|((first|refine lbx J ?_|refine lal J ?_|refine lbs J ?_);clear J;intro j g J)|(refine zc J ?_;clear J;intro g J))
  (try simp only[Exit.inBlock,Exit.then]);(first|refine qv rfl rfl ?_|refine qw rfl rfl ?_)
  exact⟨rfl,⟨true,zA,false,false,zi⟩,J.pure (fun w=>⟨rfl,zk.nil w⟩)⟩
theorem Z3 (w0:World) (g:Nat) (i:Ins) (at' : Nat) (x:Pv) (es:List (Int × Pd)) (wr p:Bool) (A:List zg) (D:List zl) (w:World) (h:Stp w0 g i at' x es wr p A D w) (hk:i.kind=1∨i.kind=14∨i.kind=2∨i.kind=3) (ao:-2147483648<=i.n∧i.n<=2147483647):
  Calls prog 154 #[.pointer (some ⟨g,0,none⟩)] w fun e I=>∃ T:Gu,e=.returned T.v∧Stp w0 g i at' x es wr p A ((fun w=>ql w T (qZ i))::D) I:=by
 obtain⟨s,R,t,aa,J⟩:=h;have ab:=za (fun (C:Nat) (P:zg) (j:World) (al:Loc w0 j (P::(C,151,[.pointer (some ⟨g,0,none⟩)])::(g,153,stC i at' x s wr p)::(A++t)) ((fun w=>j8 w R es)::D))=>zax w0 j _ _ 197 [.pointer (some ⟨C,0,none⟩)] (qZ i) ze7 al (fun ad N I an=>zbU w0 ad C g P i at' x s wr p ((A++t)++N) _ I hk ao an));have ac:=za aa;clear aa;obtain⟨ax,az,au,av,ay,aw⟩:=i;obtain⟨a5,⟨a6,a7,a1⟩,⟨a4,a3,a2⟩⟩:=x;obtain⟨sp,ar,aq⟩:=s;go_enter func154,ntmps154;go_upto_region 1 with(with_reducible first|refine lld J ?_|((first|refine lbx J ?_|refine lal J ?_|refine lbs J ?_);clear J;intro ae j J)|(refine zc J ?_;clear J;intro j J))
 go_wp2_with (first|(go_at_call 196;refine(ab.out _ _ _ J).mono ?_;rintro e a0 ⟨⟨ai,⟨ak,ah,ag⟩,gt,af,⟨aj,gk,gc⟩⟩,rfl,U⟩;clear J;have J:=U;clear U;dsimp only)|(with_reducible first|refine lld J ?_|((first|refine lbx J ?_|refine lal J ?_|refine lbs J ?_);clear J;intro ae j J)|(refine zc J ?_;clear J;intro j J)))
 (try simp only[Exit.inBlock,Exit.then]);refine rt1 ?_
 refine⟨⟨ai,⟨ak,ah,ag⟩,gt,af,⟨aj,gk,gc⟩⟩,rfl,⟨sp,ar,aq⟩,R,t,ac.out,J.drop (.cons _ (.cons _ (List.Sublist.refl _))) (fun S o=>?_)⟩;rcases List.mem_cons.1 o with rfl|o
 ·exact List.mem_cons_of_mem _ List.mem_cons_self
 ·rcases List.mem_cons.1 o with rfl|o
  ·exact List.mem_cons_self
  ·exact List.mem_cons_of_mem _ (List.mem_cons_of_mem _ o)
theorem Loc.facts1 {w0 w:World}{L:List zg}{D:List zl}{S U:zl}(h:Loc w0 w L (S::D)) (o:∀ w,S w->U w):Loc w0 w L (U::D):=by
 have j:=h.drop (List.Sublist.refl _) (D':=S::S::D) (fun V g=>by
  rcases List.mem_cons.1 g with rfl|g
  ·exact List.mem_cons_self
  ·exact g)
 exact j.both (fun w i _=>o w i)
theorem zgG:∀ args w,(callFunc 202 args).run prog w=.ok (.enter 202 args) w:=fun args w=>by kernel_rfl
theorem ziD:jy prog 110:=⟨by kernel_rfl,by kernel_rfl⟩
theorem zbV (w0:World) (al aj ak:Nat) (i:Ins) (at' : Nat) (x:Pv) (wr a2:Bool) (A:List zg) (D:List zl) (d:Pd) (a:Nat) (K:FuncId) (F:Gu->Gu) (t:Res->Res) (aV:∀ args w,(callFunc K args).run prog w=.ok (.enter K args) w)
  (hf:∀ j w,Calls prog K #[Gu.v j] w fun e p=>e=.returned (F j).v∧Below w.heap.size w p) (aq:∀ w j ao,ql w j ao->ql w (F j) (t ao)) (hi:i.a=a) (ha:a<d.vars.length):
  Vr w0 al i at' x wr a2 ((aj,110,[.func (.func K) #[] #[]])::(ak,151,[.pointer (some ⟨al,0,none⟩)])::A) D 202 [.pointer (some ⟨aj,0,none⟩),.pointer (some ⟨ak,0,none⟩)] d (d.setVar a (t (d.var a))):=by
 intro aK r s N aH w aB ax a6;obtain⟨g,I,aE,aI,T,R,o,J⟩:=a6;have au:=(J.get (S:=zH g I d.vars d.fields) List.mem_cons_self).1;have aA:=o.vars.flatlen jb (by decide);have a7:=au.len;obtain⟨an,C,aw,rfl,aC,av⟩:=o.vars.block (by omega);have ar:=o.vars.elem jb zI (k:=a) (by omega);have P:=o.vars.put jb zI (k:=a) (by omega) (F (g.getD a zI));have a9:=o.vars.fits;have a8:a<r.vars.n:=by omega
 have a1:=za (show a*7+(F (g.getD a zI)).cells.length<=C.length by show a*7+7<=_;rw[av];omega);have a0:=za (And.intro o P);have ay:=za (show zn prog 108 C (a*7) (g.getD a zI).v from zn.agg zO ar rfl);have az:=za (fun p=>hf (g.getD a zI) p);have ai:=za (fun p (h:zH g I d.vars d.fields p)=>show zH (g.set a (F (g.getD a zI))) I (d.setVar a (t (d.var a))).vars (d.setVar a (t (d.var a))).fields p from ⟨h.1.set ha (aq _ _ _ (h.1.at' a ha)),h.2⟩);generalize d.setVar a (t (d.var a))=d2 at ai ⊢;replace J:=J.perm (Kl _ _ _ _ _ A (R++T) N).symm;clear o P aA a7 aC av a9 au aB hf aq ar;obtain⟨bd,⟨bg,bf,be⟩,⟨aM,fn,aL⟩⟩:=r;obtain⟨ba,bc,aW,aY,bb,aZ⟩:=i;dsimp only at aw hi a8 ax;subst aw hi ax;generalize g.getD a zI=j at *;generalize F j=a3 at *;obtain⟨aQ,⟨aS,aP,aO⟩,gt,aN,⟨aR,gk,gc⟩⟩:=j;obtain⟨ae,⟨ag,ad,ab⟩,ah,aa,⟨af,ac,U⟩⟩:=a3;go_enter func202,ntmps202;obtain⟨bi,aD⟩:∃ x,x=w:=⟨_,rfl⟩;subst aD;refine zb [4,5,6,7,8,9,10,11,12,13,14,15,16,17,18,19,20,21,22,23,24,25,26] ?_
 iterate 4 refine qdv ?_
 refine yz jm ?_
 iterate 4 refine qdv ?_
 refine yz ziD ?_
 iterate 4 refine qdv ?_
 refine yz jm ?_
 iterate 5 refine qdv ?_
 refine yT ay.out ?_;refine qdk J (fun _ aU J=>az.out _) ?_;refine qdv ?_;refine dnd J ?_;clear J;intro bh J;simp only[zr,sTa,sTb];go_wp2_with (first|(refine zR (b:=an) (off:=a*7) (vs:=Gu.cells ⟨ae,⟨ag,ad,ab⟩,ah,aa,⟨af,ac,U⟩⟩) (cs':=zj C (a*7) (Gu.cells ⟨ae,⟨ag,ad,ab⟩,ah,aa,⟨af,ac,U⟩⟩)) J rfl rfl cIn rfl zO.sz rfl a1.out rfl ?_;clear J;intro p J)|(with_reducible first|refine lld J ?_|((first|refine lbx J ?_|refine lal J ?_|refine lbs J ?_);clear J;intro aJ aF J)|(refine zc J ?_;clear J;intro aF J)))
 (try simp only[Exit.inBlock,Exit.then]);(first|refine qv rfl rfl ?_|refine qw rfl rfl ?_)
 obtain⟨⟨aT,a4,a5⟩,P⟩:=a0.out;refine⟨rfl,_,I,aE,[(an,108,zj C (a*7) (Gu.cells ⟨ae,⟨ag,ad,ab⟩,ah,aa,⟨af,ac,U⟩⟩))],T,R,⟨P,a4,a5⟩,?_⟩;exact(J.perm (Kl _ _ _ _ _ A (R++T) N)).facts1 ai.out
theorem Vs (w0:World) (g:Nat) (i:Ins) (at' : Nat) (x:Pv) (d:Pd) (es:List (Int × Pd)) (wr o:Bool) (A:List zg) (D:List zl) (w:World) (a:Nat) (R:Bool) (go:Int) (K:FuncId) (F:Gu->Gu) (p:Res->Res) (ai:∀ args w,(callFunc K args).run prog w=.ok (.enter K args) w)
  (hf:∀ I w,Calls prog K #[Gu.v I] w fun e T=>e=.returned (F I).v∧Below w.heap.size w T) (ab:∀ w I aa,ql w I aa->ql w (F I) (p aa)) (h:Stp w0 g i at' x es wr o A D w) (ok:qV w0 x d) (hi:i.a=a) (ha:a<d.vars.length) (aj:es.length<=10):
  Calls prog 159 #[.pointer (some ⟨g,0,none⟩),.bool R,.int .i64 go,.func (.func K) #[] #[]] w fun e T=>e=.returned (.tuple #[])∧Stp w0 g i at' x (es++if R=true then [(go,d.setVar a (p (d.var a)))] else []) wr o A D T:=by
 obtain⟨s,ag,ae,ac,J⟩:=h;have ad:=za (fun (t C:Nat) (j:World) (ah:Stp w0 g i at' x es wr o ((t,110,[.func (.func K) #[] #[]])::(C,151,[.pointer (some ⟨g,0,none⟩)])::A) D j)=>JR w0 g i at' x d (d.setVar a (p (d.var a))) es wr o _ D j go 202 [.pointer (some ⟨t,0,none⟩),.pointer (some ⟨C,0,none⟩)] zgG ah ok.x ok.n ok.few ok.own ok.n (by show (d.vars.set a _).length+d.fields.length<=_;rw[List.length_set];exact ok.m) aj (zbV w0 g t C i at' x wr o A D d a K F p ai hf ab hi ha));have U:=za ac;clear ac ok hf ab;generalize d.setVar a (p (d.var a))=an at *;obtain⟨sp,al,ak⟩:=s;cases R with
 | false=>
  go_enter func159,ntmps159;go_wp2_with (with_reducible first|refine lld J ?_|((first|refine lbx J ?_|refine lal J ?_|refine lbs J ?_);clear J;intro af j J)|(refine zc J ?_;clear J;intro j J))
  (try simp only[Exit.inBlock,Exit.then]);(first|refine qv rfl rfl ?_|refine qw rfl rfl ?_)
  refine⟨rfl,?_⟩;have P:Stp w0 g i at' x es wr o A D _:=⟨⟨sp,al,ak⟩,ag,ae,U.out,J.drop (.cons _ (.cons _ (List.Sublist.refl _))) (fun _ h=>h)⟩;simpa using P
 | true=>
  go_enter func159,ntmps159;go_step;go_step;go_step
  ((with_reducible refine lbx J ?_);clear J;intro C j J)
  ((with_reducible refine lbx J ?_);clear J;intro t j J)
  go_wp2_with (first|(with_reducible first|refine ldO (zn.cell jm rfl) J ?_|refine lld J ?_|((first|refine lbx J ?_|refine lal J ?_|refine lbs J ?_);clear J;intro af j J)|(refine zc J ?_;clear J;intro j J))|(go_at_call 162;refine(ad.out t C _ (Stp.push2 U.out J)).mono ?_;rintro e ao ⟨rfl,P⟩;dsimp only))
  (try simp only[Exit.inBlock,Exit.then]);(first|refine qv rfl rfl ?_|refine qw rfl rfl ?_)
  exact⟨rfl,by simpa using P.drop2⟩
theorem ze8:∀ args w,(callFunc 199 args).run prog w=.ok (.enter 199 args) w:=fun args w=>by kernel_rfl
abbrev Yf (at' : Nat):Res:=⟨false,zA,false,false,[(at' : Int)]⟩
theorem Gv (w0:World) (g j o at' : Nat) (N:List zg) (w:World) (t:zd prog 151 w0 j 0 (.pointer (some ⟨o,0,none⟩))) (C:zd prog 3 w0 o 6 (.int .i64 at')) (J:Loc w0 w ((g,108,qn.cells)::([]++N)) []):
  Calls prog 199 #[.pointer (some ⟨g,0,none⟩),.pointer (some ⟨j,0,none⟩)] w fun e ab=>e=.returned (.tuple #[])∧∃ p:Gu,Loc w0 ab ((g,108,p.cells)::([]++N)) [fun w=>ql w p (Yf at')]:=by
 have I:=za t;have P:=za C;clear t C;go_enter func199,ntmps199;go_wp2_with (with_reducible first|refine ldB I.out J ?_|refine ldB P.out J ?_|refine lld J ?_|((first|refine lbx J ?_|refine lal J ?_|refine lbs J ?_);clear J;intro i aa J)|(refine zc J ?_;clear J;intro aa J))
 (try simp only[Exit.inBlock,Exit.then]);(first|refine qv rfl rfl ?_|refine qw rfl rfl ?_)
 refine⟨rfl,⟨false,zA,false,false,⟨some ⟨i,0,none⟩,1,1⟩⟩,?_⟩;have R:=J.perm (L':=((g,108,Gu.cells ⟨false,zA,false,false,⟨some ⟨i,0,none⟩,1,1⟩⟩)::([]++N))++[(i,3,[.int .i64 at'])]) List.perm_append_comm;refine R.fact fun ac U=>⟨rfl,?_⟩
 exact zB.ints (B:=0) (l:=[(at' : Int)]) (zB.full rfl (by decide)) ⟨by simp,fun e T=>⟨Nat.zero_le _,U e T⟩⟩
theorem zay (g i at' : Nat) (w:World) (t:zd prog 151 w g 0 (.pointer (some ⟨i,0,none⟩))) (C:zd prog 3 w i 6 (.int .i64 at')):
  Calls prog 196 #[.func (.func 199) #[] #[.pointer (some ⟨g,0,none⟩)]] w fun e P=>∃ j:Gu,e=.returned j.v∧Loc w P [] [fun w=>ql w j (Yf at')]:=
 zax w w [] [] 199 [.pointer (some ⟨g,0,none⟩)] (Yf at') ze8 (Loc.start w) (fun o N I p=>Gv w o g i at' N I t C p)
def ze9 (i:World) (at' : Nat):Value->World->Prop:=fun v w=>∃ g:Gu,v=g.v∧Loc i w [] [fun w=>ql w g (Yf at')]
theorem ze9.stable {p:World}{at' : Nat}:qC (ze9 p at'):=by
 rintro v w t o ⟨g,i,j⟩;exact⟨g,i,j.grow o⟩
theorem jT.get {g:List Sl}{gf:List (List Gu)}{o:List zg}(h:jT g gf o):∀ k,k<g.length->∃ t R C,o=t++(R++C)∧zB 108 7 (g.getD k zi).p (g.getD k zi).n (g.getD k zi).cap ((gf.getD k []).flatMap Gu.cells) R∧
  ∀ j i,zB 108 7 (g.getD k zi).p (g.getD k zi).n (g.getD k zi).cap (j.flatMap Gu.cells) i->jT g (gf.set k j) (t++(i++C)):=by
 induction h with
 | nil=>intro k P;exact absurd P (Nat.not_lt_zero k)
 | @cons s gl R g gf o h hs ih=>
  intro k P;cases k with
  | zero=>exact⟨[],R,o,rfl,h,fun j i I=>(show jT (s::g) (j::gf) (i++o) from jT.cons (s:=s) (gl:=j) (R:=i) I hs)⟩
  | succ k=>
   obtain⟨t,T,C,U,aa,ab⟩:=ih k (by simpa using P);exact⟨R++t,T,C,by rw[U,List.append_assoc],aa,fun j i I=>by
    rw[List.append_assoc];exact .cons h (ab j i I)⟩
theorem jj.set {w:World}{gf:List (List Gu)}{g:List (List Res)}(h:jj w gf g) {k:Nat}(hk:k<g.length) {gl:List Gu}{ds:List Res}(o:zN w gl ds):jj w (gf.set k gl) (g.set k ds):=by
 refine⟨by simp[h.len],fun j p=>?_⟩;have t : j<g.length:=by simpa using p
 rw[qs _ _ _ _ _ (by rw[h.len];exact hk),qs _ _ _ _ _ hk];by_cases i:j=k
 ·rw[if_pos i,if_pos i];exact o
 ·rw[if_neg i,if_neg i];exact h.at' j t
end Go.Proofs.YtplcndmdkabmeaaGreatDoor
