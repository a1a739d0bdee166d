/- The walk over the reference's SameRun. Conditions: what it reads lies in memory that was there. -/
import Derived.Test.YtplcndmdkabmeaaGreatDoorVal
set_option linter.unusedSimpArgs false
set_option linter.unusedVariables false
set_option maxRecDepth 100000
set_option maxHeartbeats 8000000
namespace Go.Proofs.YtplcndmdkabmeaaGreatDoor
open Go.Proofs.Tryz
open Go.RowKit
structure GF (w:World) (r:Rn) (vs:Nat->Vl) (ths:Nat->Th) (fv:Nat->Nat->Vl):Prop where
 vars:jG prog 77 2 w r.vars.p r.vars.n (fun k=>(vs k).v)
 things:jG prog 79 2 w r.things.p r.things.n (fun k=>(ths k).v)
 fields:∀ k,k<r.things.n->(ths k).fs.n<=9223372036854775807∧jG prog 77 2 w (ths k).fs.p (ths k).fs.n (fun j=>(fv k j).v)
 n1:r.vars.n<=9223372036854775807
 n2:r.things.n<=9223372036854775807
theorem GF.grow {w w' : World}{r:Rn}{vs:Nat->Vl}{j:Nat->Th}{g:Nat->Nat->Vl}(h:GF w r vs j g) (hb:Below w.heap.size w w'):GF w' r vs j g:=
 ⟨h.vars.grow hb,h.things.grow hb,fun k i=>⟨(h.fields k i).1,(h.fields k i).2.grow hb⟩,h.n1,h.n2⟩
def yW (p:Pg) (r:Rn):Bool:=decide (r.at' < 0) || decide ((p.n:Int)<r.at') || decide (r.taken<0) || decide (r.ending<0) || decide (5<r.ending)
def Zc (p:Pg) (is:Nat->Ins) (r:Rn) (g:Nat->Th):Bool:=qa (fun k=>!qh p is (g k).site) r.things.n
def YQ (p:Pg) (r:Rn) (g:Nat->Th):Bool:=qa (fun k=>((g k).fs.n:Int) != p.fields) r.things.n
def YR (r:Rn) (vs:Nat->Vl):Bool:=qa (fun k=>!zM (vs k) r.things.n) r.vars.n
def Q6 (r:Rn) (j:Nat->Th) (g:Nat->Nat->Vl):Bool:=qa (fun k=>qa (fun i=>!zM (g k i) r.things.n) (j k).fs.n) r.things.n
def yB (p:Pg) (is:Nat->Ins) (r:Rn) (vs:Nat->Vl) (g:Nat->Th) (i:Nat->Nat->Vl):Int:=
 if yW p r then 3 else if (r.vars.n:Int) != p.vars then 1 else if 100<r.things.n then 2 else if Zc p is r g then 5 else if YQ p r g then 1 else if YR r vs then 4 else if Q6 r g i then 4 else 0
theorem XQ (p:Pg) (is:Nat->Ins) (r:Rn) (vs:Nat->Vl) (g:Nat->Th) (C:Nat->Nat->Vl) (w:World) (hn:p.n<=9223372036854775807) (hc:zy w p is) (au:GF w r vs g C):
  Calls prog 84 #[p.v,r.v] w fun e T=>e=.returned (.int .i64 (yB p is r vs g C))∧Below w.heap.size w T:=by
 have aA:=au.n1;have an:=au.n2;have a6:=za hc;have ac:=za au;have P:=za (show yB p is r vs g C=if yW p r then 3 else if (r.vars.n:Int) != p.vars then 1 else if 100<r.things.n then 2 else if Zc p is r g then 5 else if YQ p r g then 1 else if YR r vs then 4 else if Q6 r g C then 4 else 0 from rfl);clear hc au;have J:=Loc.start w;go_enter func84,ntmps84;go_step;go_step;go_step
 ((with_reducible refine lbx J ?_);clear J;intro ae o J)
 ((with_reducible refine lbx J ?_);clear J;intro af o J)
 go_upto_region 1 with(fail)
 refine zx [7,8,9,10,11,12,13,14,15,16,17,18,19,20,21,22,23,24,25,26,27,28,29,30,31,32,6] ?_
 iterate 27 refine qda ?_
 refine dns J ?_;clear J;intro a4 J;simp only[zr,sTa,sTb];cases ag:yW p r with
 | true=>
  have aa:=ag;unfold yW at aa;simp only[aa];clear aa;have H:=za ag;clear ag;go_wp2;refine rt1 ?_;exact⟨by rw[P.out,if_pos H.out];rfl,J.below⟩
 | false=>
 have aa:=ag;unfold yW at aa;simp only[aa];clear aa;have U:=za ag;clear ag;by_cases av:(r.vars.n:Int)=p.vars
 case neg=>
  have aw:((r.vars.n:Int) != p.vars)=true:=by simp[av]
  have H:=za aw;clear av;go_wp2_with (with_reducible refine lld J ?_);refine rt1 ?_;exact⟨by rw[P.out,if_neg (by rw[U.out];decide),if_pos H.out];rfl,J.below⟩
 have aw:((r.vars.n:Int) != p.vars)=false:=by simp[av]
 have ad:=za aw;clear av;by_cases a0:100<r.things.n
 ·go_wp2_with (with_reducible refine lld J ?_)
  refine rt1 ?_;exact⟨by rw[P.out,if_neg (by rw[U.out];decide),if_neg (by rw[ad.out];decide),if_pos a0];rfl,J.below⟩
 go_upto_region 7 with(with_reducible refine lld J ?_)
 have al:=za a0;clear a0 aw;have i:=Q3 r.things.p r.things.n r.things.cap (fun k=>(g k).v) (fun k=>!qh p is (g k).site) 126 (.pointer (some ⟨ae,0,none⟩)) _ an (ac.out.things.grow J.below) ⟨zhV,fun k _ T I=>zbX p is (g k) ae T ((J.readsAt (b:=ae) (Tv:=27) (off:=0) (v:=p.v) cIn (zn.agg Ga rfl rfl)).grow I) ((a6.out.grow J.below).grow I)⟩;rw[show qa (fun k=>!qh p is (g k).site) r.things.n=Zc p is r g from rfl]at i;cases ah:Zc p is r g with
 | true=>
  rw[ah]at i;have t:=za i;have H:=za ah;clear i ah;go_wp2_with (first|(with_reducible refine lld J ?_)|(go_at_call 125;((with_reducible refine cg J t.out ?_);clear J;intro o J;dsimp only)));refine rt1 ?_;exact⟨by rw[P.out,if_neg (by rw[U.out];decide),if_neg (by rw[ad.out];decide),if_neg al.out,if_pos H.out];rfl,J.below⟩
 | false=>
 rw[ah]at i;have t:=za i;have ar:=za ah;clear i ah;go_upto_region 9 with(first|(with_reducible refine lld J ?_)|(go_at_call 125;((with_reducible refine cg J t.out ?_);clear J;intro o J;dsimp only)))
 clear t;have i:=Q3 r.things.p r.things.n r.things.cap (fun k=>(g k).v) (fun k=>((g k).fs.n:Int) != p.fields) 128 (.pointer (some ⟨ae,0,none⟩)) _ an (ac.out.things.grow J.below) ⟨zhW,fun k _ T I=>zbY p.fields (g k) ae T ((J.readsAt (b:=ae) (Tv:=3) (off:=1) (v:=.int .i64 p.fields) cIn (zn.cell y2 rfl)).grow I)⟩;rw[show qa (fun k=>((g k).fs.n:Int) != p.fields) r.things.n=YQ p r g from rfl]at i;cases ai:YQ p r g with
 | true=>
  rw[ai]at i;have t:=za i;have H:=za ai;clear i ai;go_wp2_with (first|(with_reducible refine lld J ?_)|(go_at_call 125;((with_reducible refine cg J t.out ?_);clear J;intro o J;dsimp only)));refine rt1 ?_;exact⟨by rw[P.out,if_neg (by rw[U.out];decide),if_neg (by rw[ad.out];decide),if_neg al.out,if_neg (by rw[ar.out];decide),if_pos H.out];rfl,J.below⟩
 | false=>
 rw[ai]at i;have t:=za i;have ax:=za ai;clear i ai;go_upto_region 11 with(first|(with_reducible refine lld J ?_)|(go_at_call 125;((with_reducible refine cg J t.out ?_);clear J;intro o J;dsimp only)))
 clear t;go_upto_region 12 with(first|((with_reducible refine lal J ?_);clear J;intro a8 o J)|(refine zc J ?_;clear J;intro o J))
 obtain⟨ay,a9⟩:∃ x,x=a8:=⟨_,rfl⟩;subst a9;have ab:=ZA r.vars.p r.vars.n r.vars.cap (fun k=>(vs k).v) (fun k=>!zM (vs k) r.things.n) 129 (.pointer (some ⟨af,0,none⟩)) _ aA (ac.out.vars.grow J.below) (fn3 r.things af _ an (J.readsAt (b:=af) (Tv:=43) (off:=2) (v:=r.things.v) cIn (zn.cell QP rfl)) r.vars.n vs);rw[show qa (fun k=>!zM (vs k) r.things.n) r.vars.n=YR r vs from rfl]at ab;have hct:=fun T (I:Below _ _ T)=>Q3 r.things.p r.things.n r.things.cap (fun k=>(g k).v) (fun k=>qa (fun j=>!zM (C k j) r.things.n) (g k).fs.n) 132 (.pointer (some ⟨ay,0,none⟩)) T an ((ac.out.things.grow J.below).grow I) ⟨zhY,fun k a3 a4 az=>zb0 r.things (g k) (C k) af ay a4 an (ac.out.fields k a3).1 (((J.readsAt (b:=af) (Tv:=43) (off:=2) (v:=r.things.v) cIn (zn.cell QP rfl)).grow I).grow az) (((J.readsAt (b:=ay) (Tv:=138) (off:=0) (v:=.func (.func 129) #[] #[.pointer (some ⟨af,0,none⟩)]) cIn (zn.cell zhU rfl)).grow I).grow az) ((((ac.out.fields k a3).2.grow J.below).grow I).grow az)⟩
 rw[show qa (fun k=>qa (fun j=>!zM (C k j) r.things.n) (g k).fs.n) r.things.n=Q6 r g C from rfl]at hct;have a7:=za hct;clear hct;cases ak:YR r vs with
 | true=>
  rw[ak]at ab;have aq:=za ab;have H:=za ak;clear ab ak;go_wp2_with (first|(with_reducible refine lld J ?_)|(go_at_call 131;((with_reducible refine(aq.out).mono ?_);rintro e a5 ⟨rfl,R⟩;replace J:=J.grow R;dsimp only))|(go_at_call 125;((with_reducible refine cg J (ao.out _ R) ?_);clear J;intro o J;dsimp only)));refine rt1 ?_;exact⟨by rw[P.out,if_neg (by rw[U.out];decide),if_neg (by rw[ad.out];decide),if_neg al.out,if_neg (by rw[ar.out];decide),if_neg (by rw[ax.out];decide),if_pos H.out];rfl,J.below⟩
 | false=>
 rw[ak]at ab;have aq:=za ab;have a2:=za ak;clear ab ak;have hct:=a7.out;cases aj:Q6 r g C with
 | true=>
  rw[aj]at hct;have ao:=za hct;have H:=za aj;clear hct aj;go_wp2_with (first|(with_reducible refine lld J ?_)|(go_at_call 131;((with_reducible refine(aq.out).mono ?_);rintro e a5 ⟨rfl,R⟩;replace J:=J.grow R;dsimp only))|(go_at_call 125;((with_reducible refine cg J (ao.out _ R) ?_);clear J;intro o J;dsimp only)));refine rt1 ?_;exact⟨by rw[P.out,if_neg (by rw[U.out];decide),if_neg (by rw[ad.out];decide),if_neg al.out,if_neg (by rw[ar.out];decide),if_neg (by rw[ax.out];decide),if_neg (by rw[a2.out];decide),if_pos H.out];rfl,J.below⟩
 | false=>
  rw[aj]at hct;have ao:=za hct;have H:=za aj;clear hct aj;go_wp2_with (first|(with_reducible refine lld J ?_)|(go_at_call 131;((with_reducible refine(aq.out).mono ?_);rintro e a5 ⟨rfl,R⟩;replace J:=J.grow R;dsimp only))|(go_at_call 125;((with_reducible refine cg J (ao.out _ R) ?_);clear J;intro o J;dsimp only)));refine rt1 ?_;exact⟨by rw[P.out,if_neg (by rw[U.out];decide),if_neg (by rw[ad.out];decide),if_neg al.out,if_neg (by rw[ar.out];decide),if_neg (by rw[ax.out];decide),if_neg (by rw[a2.out];decide),if_neg (by rw[H.out];decide)];rfl,J.below⟩
def jA (p:Pg) (is:Nat->Ins) (r:Rn) (vs:Nat->Vl) (i:Nat->Th) (g:Nat->Nat->Vl):Int:=if zf p is=0 then yB p is r vs i g else zf p is
theorem Zd (p:Pg) (is:Nat->Ins) (r:Rn) (vs:Nat->Vl) (t:Nat->Th) (j:Nat->Nat->Vl) (w:World) (hn:p.n<=9223372036854775807) (hc:zy w p is) (U:GF w r vs t j):
  Calls prog 42 #[p.v,r.v] w fun e i=>e=.returned (.int .i64 (jA p is r vs t j))∧Below w.heap.size w i:=by
 have T:=za (fun i (I:Below w.heap.size w i)=>jn p is i (hc.grow I) hn);have aa:=za (fun i (I:Below w.heap.size w i)=>XQ p is r vs t j i hn (hc.grow I) (U.grow I));clear hc U;have J:=Loc.start w;by_cases o:zf p is=0
 ·have C:=za (show jA p is r vs t j=yB p is r vs t j by simp[jA,o])
  have g:=T.out;rw[o]at g;have R:=za g;clear g o;go_enter func42,ntmps42;go_wp2_with (first|(with_reducible first|refine lld J ?_|(refine lbx J ?_;clear J;intro ab P J))|(go_at_call 43;refine cg J (R.out _ J.below) ?_;clear J;intro P J;dsimp only)|(go_at_call 84;refine cg J (aa.out _ J.below) ?_;clear J;intro P J;dsimp only));refine rt1 ?_;exact⟨by rw[C.out];rfl,J.below⟩
 ·have C:=za (show jA p is r vs t j=zf p is by simp[jA,o])
  have ac:(zf p is != 0)=true:=by simp[o]
  have g:=T.out;generalize zf p is=c at g ac C;have R:=za g;clear g o;go_enter func42,ntmps42;go_wp2_with (first|(with_reducible first|refine lld J ?_|(refine lbx J ?_;clear J;intro ab P J))|(go_at_call 43;refine cg J (R.out _ J.below) ?_;clear J;intro P J;dsimp only));refine rt1 ?_;exact⟨by rw[C.out];rfl,J.below⟩
theorem zh4 (a b:Vl) (w:World):(binOp .neq 77 (.agg #[.int .i64 a.kind,.int .i64 a.n]) (.agg #[.int .i64 b.kind,.int .i64 b.n])).run prog w=.ok (.bool (!(a.kind==b.kind&&a.n==b.n))) w:=by
 cases g:(a.kind==b.kind)<;>cases i:(a.n==b.n)
 all_goals
  go_simp
  try simp_all
theorem zd7 (x y:Operand) (a b:Vl) (w:World):(eqGuard .neq 77 x y (.agg #[.int .i64 a.kind,.int .i64 a.n]) (.agg #[.int .i64 b.kind,.int .i64 b.n])).run prog w=.ok () w:=by
 go_simp
theorem zd8 {ops:Array Oper}{Q:Exit->Act->World->Prop}{g:Act}{w:World}{rest:List Oper}{d:Option Tmp}{ty u:TypeId}{pos:String}{after:Array Edge}{x y:Operand}{a b:Vl}{r:Bool}(ha:g.eval x=a.v) (hb:g.eval y=b.v) (i:(!(a.kind==b.kind&&a.n==b.n))=r)
  (h:wpList prog ops Q rest (g.put d (.bool r)) w):wpList prog ops Q (⟨d,.binOp .neq 77 x y u,ty,pos,after,none⟩::rest) g w:=by
 subst i;refine YK (w':=w) ?_ ?_ h
 ·rw[ha,hb];exact zd7 x y a b w
 ·rw[ha,hb];exact zh4 a b w
def YS (x y:Nat->Vl) (k:Nat):Bool:=!((x k).kind==(y k).kind&&(x k).n==(y k).n)
def yX (n m:Nat) (x y:Nat->Vl):Bool:=n==m && !(qa (YS x y) n)
theorem ZD (sp ab:Option Addr) (n m an ao:Nat) (x y:Nat->Vl) (w:World) (az:n<=9223372036854775807) (a0:m<=9223372036854775807) (aa:jG prog 77 2 w sp n (fun k=>(x k).v)) (ht:jG prog 77 2 w ab m (fun k=>(y k).v)):
  Calls prog 66 #[.slice sp n an,.slice ab m ao] w fun e aq=>e=.returned (.bool (yX n m x y))∧Below w.heap.size w aq:=by
 obtain⟨ar,a1,R,C⟩:=aa.ex;obtain⟨au,a2,T,I⟩:=ht.ex;have ag:=za R;have ad:=za C;have ah:=za T;have ae:=za I;clear R C T I aa ht;have J:=Loc.start w;by_cases p:n=m
 ·subst p
  have i:Hid (yX n n x y=!(qa (YS x y) n)):=za (by simp[yX]);go_enter func66,ntmps66;go_wp2;go_loopw [5] (fun c wr=>∃ k:Nat,k<=n∧c=.int .i64 k∧(∀ j,j<k->YS x y j=false)∧Loc w wr [] []) (fun c _=>n - (intOf c).toNat)
  case atStart=>exact⟨0,Nat.zero_le _,rfl,fun j P=>absurd P (by omega),J⟩
  case round=>
   obtain⟨k,ax,rfl,U,J⟩:=hrel;have t:=za U;clear U;by_cases o:k<n
   ·have ai:=za (ag.out (by omega))
    have aj:=za (ah.out (by omega));have ak:=za (ad.out k o);have al:=za (ae.out k o);go_upto_region 6 with(fail)
    refine zb [17,18,19,20,21,22,23,24,25] ?_
    iterate 2 refine qdv ?_
    refine qdx ai.out ?_;refine qdl ak.out ?_
    iterate 2 refine qdv ?_
    refine qdx aj.out ?_;refine qdl al.out ?_;refine' j2 J ?_ ?_;rotate_left
    ·intro g w aw J _ q;simp only[aG]at q;simp only[fD];simp only[q]
     refine zd8 (a:=x k) (b:=y k) (r:=YS x y k) rfl rfl rfl ?_;exact cY
    refine dnd J ?_;clear J;intro a3 J;simp only[zr,sTa,sTb];cases hd:YS x y k with
    | true=>
     have ac:=za (qg o hd);clear hd;go_wp2;go_ret;exact⟨by rw[i.out,ac.out];rfl,J.below⟩
    | false=>
     have af:=za hd;clear hd;go_wp2;go_roundw
     case rel=>
      refine⟨k+1,by omega,by go_num,fun j P=>?_,J⟩;rcases Nat.lt_or_ge j k with h|h
      ·exact t.out j h
      ·obtain rfl:j=k:=by omega
       exact af.out
     case measure=>simp[intOf];omega
   ·obtain rfl:k=n:=by omega
    go_wp2;go_ret;exact⟨by rw[i.out,qu t.out];rfl,J.below⟩
 ·have ay:((n:Int) != m)=true:=by simp;omega
  have i:Hid (yX n m x y=false):=za (by simp[yX,p]);clear p;go_enter func66,ntmps66;go_wp2;go_ret;exact⟨by rw[i.out];rfl,J.below⟩
theorem zZ.cell {P:Program}{T:TypeId}{w:World}{es:Nat}{p:Option Addr}{n:Nat}{cells:Nat->List Value}(hT:jy P T) (h:zZ w es p n cells):
  ∃ b i:Nat,(0<n->p=some ⟨b,i,none⟩)∧∀ k,k<n->∀ g v,(cells k)[g]? = some v->zd P T w b (i+k*es+g) v:=by
 obtain⟨b,i,t,j⟩:=h.ex;exact⟨b,i,t,fun k o g v C=>zd.cell hT (j k o).1 ((j k o).2 g v C)⟩
structure Ju (w:World) (r:Rn) (vs:Nat->Vl) (ths:Nat->Th) (fv:Nat->Nat->Vl) (ls:Nat->ByteArray):Prop where
 vars:zZ w 2 r.vars.p r.vars.n (fun k=>(vs k).cells)
 things:zZ w 2 r.things.p r.things.n (fun k=>[.int .i64 (ths k).site,.slice (ths k).fs.p (ths k).fs.n (ths k).fs.cap])
 fields:∀ k,k<r.things.n->(ths k).fs.n<=9223372036854775807∧zZ w 2 (ths k).fs.p (ths k).fs.n (fun j=>(fv k j).cells)
 lines:zZ w 1 r.lines.p r.lines.n (fun k=>[.string (ls k)])
 n1:r.vars.n<=9223372036854775807
 n2:r.things.n<=9223372036854775807
 n3:r.lines.n<=9223372036854775807
theorem Ju.grow {w w' : World}{r:Rn}{vs:Nat->Vl}{o:Nat->Th}{g:Nat->Nat->Vl}{j:Nat->ByteArray}(h:Ju w r vs o g j) (hb:Below w.heap.size w w'):Ju w' r vs o g j:=
 ⟨h.vars.grow hb,h.things.grow hb,fun k i=>⟨(h.fields k i).1,(h.fields k i).2.grow hb⟩,h.lines.grow hb,h.n1,h.n2,h.n3⟩
theorem Ju.l {w:World}{r:Rn}{vs:Nat->Vl}{j:Nat->Th}{g:Nat->Nat->Vl}{o:Nat->ByteArray}(h:Ju w r vs j g o):GF w r vs j g:=
 ⟨h.vars.agg jk (fun _=>rfl),h.things.agg GW (fun _=>rfl),fun k i=>⟨(h.fields k i).1,(h.fields k i).2.agg jk (fun _=>rfl)⟩,h.n1,h.n2⟩
def Qv (a b:Rn) (g i:Nat->Vl):Bool:=a.at' != b.at' || a.taken != b.taken || a.ending != b.ending || !yX a.vars.n b.vars.n g i || (a.things.n:Int) != (b.things.n:Int) || (a.lines.n:Int) != (b.lines.n:Int)
def yl (g i:Nat->Th) (j fb:Nat->Nat->Vl) (k:Nat):Bool:=(g k).site != (i k).site || !yX (g k).fs.n (i k).fs.n (j k) (fb k)
def yC (g lb:Nat->ByteArray) (k:Nat):Bool:=!((g k).toList==(lb k).toList)
def Z6 (a b:Rn) (p t:Nat->Vl) (j o:Nat->Th) (g fb:Nat->Nat->Vl) (i lb:Nat->ByteArray):Bool:=
 if Qv a b p t then false else if qa (yl j o g fb) a.things.n then false else !qa (yC i lb) a.lines.n
theorem zaO (a b:Rn) (aa ab:Nat->Vl) (t C:Nat->Th) (T fb:Nat->Nat->Vl) (R lb:Nat->ByteArray) (w:World) (ha:Ju w a aa t T R) (hb:Ju w b ab C fb lb):
  Calls prog 30 #[a.v,b.v] w fun e ad=>e=.returned (.bool (Z6 a b aa ab t C T fb R lb))∧Below w.heap.size w ad:=by
 have aY:=ha.n1;have aZ:=ha.n2;have ba:=ha.n3;have ay:=za ha;have az:=za hb;have a3:=za (fun ad (ah:Below w.heap.size w ad)=>ZD a.vars.p b.vars.p a.vars.n b.vars.n a.vars.cap b.vars.cap aa ab ad ha.n1 hb.n1 (ha.l.vars.grow ah) (hb.l.vars.grow ah));have av:=za (show Z6 a b aa ab t C T fb R lb=if Qv a b aa ab then false else if qa (yl t C T fb) a.things.n then false else !qa (yC R lb) a.lines.n from rfl);obtain⟨aV,bb,aA,a6⟩:=ha.things.ex;obtain⟨aW,bc,aB,a7⟩:=hb.things.ex;obtain⟨aP,aS,aC,a8⟩:=ha.lines.ex;obtain⟨aQ,aT,aD,a9⟩:=hb.lines.ex;have aF:=za aA;have aH:=za aB;have aI:=za aC;have aJ:=za aD;have ai:=za a6;have aj:=za a7;have a0:=za a8;have a1:=za a9;clear aA aB aC aD a6 a7 a8 a9;clear ha hb;have J:=Loc.start w;go_enter func30,ntmps30;go_step;go_step;go_step
 ((with_reducible refine lbx J ?_);clear J;intro a4 aU J)
 ((with_reducible refine lbx J ?_);clear J;intro a5 aU J)
 go_upto_region 1 with(fail)
 refine zx [7,8,9,10,11,12,13,14,15,16,17,18,19,20,21,22,23,24,25,26,27,28,29,30,31,32,33,34,35,36,37,38,39,40,41,42,43,44,45,46,47,48,49,50,51] ?_
 iterate 24 refine qda ?_
 refine yu J (fun _ hb J=>a3.out _ J.below) ?_
 iterate 20 refine qda ?_
 refine dns J ?_;clear J;intro aE J;simp only[zr,sTa,sTb];simp only[beq_false,Bool.not_or,Bool.not_not];cases ac:Qv a b aa ab with
 | true=>
  have h0:=ac;unfold Qv at h0;simp only[h0];clear h0;have H:=za ac;clear ac;go_wp2;refine rt1 ?_;exact⟨by rw[av.out,if_pos H.out];rfl,J.below⟩
 | false=>
 have h0:=ac;unfold Qv at h0;simp only[h0];clear h0;have ax:b.things.n=a.things.n∧b.lines.n=a.lines.n:=by
  simp[Qv]at ac;omega
 have aO:=za ax.1;have aN:=za ax.2;have aq:=za (show Z6 a b aa ab t C T fb R lb=if qa (yl t C T fb) a.things.n then false else !qa (yC R lb) a.lines.n by rw[av.out,ac];rfl);clear ac ax av a3;go_wp2;go_loopw [5] (fun c wr=>∃ k:Nat,k<=a.things.n∧c=.int .i64 k∧(∀ j,j<k->yl t C T fb j=false)∧Loc w wr [(a5,46,[.int .i64 b.at',.slice b.vars.p b.vars.n b.vars.cap,.slice b.things.p b.things.n b.things.cap,.int .i64 b.taken,.slice b.lines.p b.lines.n b.lines.cap,.int .i64 b.ending]),(a4,46,[.int .i64 a.at',.slice a.vars.p a.vars.n a.vars.cap,.slice a.things.p a.things.n a.things.cap,.int .i64 a.taken,.slice a.lines.p a.lines.n a.lines.cap,.int .i64 a.ending])] []) (fun c _=>a.things.n - (intOf c).toNat)
 case atStart=>exact⟨0,Nat.zero_le _,rfl,fun j af=>absurd af (by omega),J⟩
 case round=>
  obtain⟨k,aR,rfl,ag,J⟩:=hrel;have ae:=za ag;clear ag;by_cases o:k<a.things.n
  ·have U:k<b.things.n:=by rw[aO.out];exact o
   have ak:=za (aF.out (by omega));have al:=za (aH.out (by omega));have ar:=za (zd.cell (P:=prog) y2 (ai.out k o).1 ((ai.out k o).2 0 _ rfl));have au:=za (zd.cell (P:=prog) y2 (aj.out k U).1 ((aj.out k U).2 0 _ rfl));have aK:=za (zd.cell (P:=prog) Jz (ai.out k o).1 ((ai.out k o).2 1 _ rfl));have aL:=za (zd.cell (P:=prog) Jz (aj.out k U).1 ((aj.out k U).2 1 _ rfl));have aM:=za (fun ad (ah:Below w.heap.size w ad)=>ZD (t k).fs.p (C k).fs.p (t k).fs.n (C k).fs.n (t k).fs.cap (C k).fs.cap (T k) (fb k) ad (ay.out.fields k o).1 (az.out.fields k U).1 ((ay.out.l.fields k o).2.grow ah) ((az.out.l.fields k U).2.grow ah));go_upto_region 6 with(with_reducible refine lld J ?_)
   refine zb [59,60,61,62,63,64,65,66,67,68,69,70,71,72,73,74,75,76,77,78,79,80,81,82,83,84,85,86,87] ?_
   iterate 3 refine qdv ?_
   refine qdx ak.out ?_;refine qdv ?_;refine qdl ar.out ?_
   iterate 3 refine qdv ?_
   refine qdx al.out ?_;refine qdv ?_;refine qdl au.out ?_
   iterate 5 refine qda ?_
   refine' Vj (j:=13) J rfl rfl rfl (by decide) (by simp) ?_ ?_;rotate_left
   ·intro I;simp only[Bool.and_eq_true,YG,YH]at I;intro g w hb J _ q;simp only[aG,I,bX]at q;simp only[fD];simp only[q]
    (simp only[ak.out];go_wp2)
    exact cY
   refine qdg ?_;refine' Vj (j:=13) J rfl rfl rfl (by decide) (by simp) ?_ ?_;rotate_left
   ·intro I;simp only[Bool.and_eq_true,YG,YH]at I;intro g w hb J _ q;simp only[aG,I,bX]at q;simp only[fD];simp only[q]
    refine zL aK.out J rfl rfl ?_;exact cY
   iterate 3 refine qdg ?_
   refine' Vj (j:=13) J rfl rfl rfl (by decide) (by simp) ?_ ?_;rotate_left
   ·intro I;simp only[Bool.and_eq_true,YG,YH]at I;intro g w hb J _ q;simp only[aG,I,bX]at q;simp only[fD];simp only[q]
    (simp only[al.out];go_wp2)
    exact cY
   refine qdg ?_;refine' Vj (j:=13) J rfl rfl rfl (by decide) (by simp) ?_ ?_;rotate_left
   ·intro I;simp only[Bool.and_eq_true,YG,YH]at I;intro g w hb J _ q;simp only[aG,I,bX]at q;simp only[fD];simp only[q]
    refine zL aL.out J rfl rfl ?_;exact cY
   refine yu J (fun _ hb J=>aM.out _ J.below) ?_
   iterate 2 refine qda ?_
   refine dnd J ?_;clear J;intro aE J;simp only[zr,sTa,sTb];cases i:yl t C T fb k with
   | true=>
    have h0:=i;unfold yl at h0;simp only[h0];clear h0;have an:=za (qg o i);clear i;go_wp2;refine rt1 ?_;exact⟨by rw[aq.out,if_pos an.out];rfl,J.below⟩
   | false=>
    have h0:=i;unfold yl at h0;simp only[h0];clear h0;have ao:=za i;clear i;go_wp2;go_roundw
    case rel=>
     refine⟨k+1,by omega,by go_num,fun j af=>?_,J⟩;rcases Nat.lt_or_ge j k with h|h
     ·exact ae.out j h
     ·obtain rfl:j=k:=by omega
      exact ao.out
    case measure=>simp[intOf];omega
  ·obtain rfl:k=a.things.n:=by omega
   have a2:=za (show Z6 a b aa ab t C T fb R lb=!qa (yC R lb) a.lines.n by rw[aq.out,qu ae.out];rfl);clear ae aq;go_wp2_with (with_reducible refine lld J ?_);go_loopw [6] (fun c wr=>∃ k:Nat,k<=a.lines.n∧c=.int .i64 k∧(∀ j,j<k->yC R lb j=false)∧Loc w wr [(a5,46,[.int .i64 b.at',.slice b.vars.p b.vars.n b.vars.cap,.slice b.things.p b.things.n b.things.cap,.int .i64 b.taken,.slice b.lines.p b.lines.n b.lines.cap,.int .i64 b.ending]),(a4,46,[.int .i64 a.at',.slice a.vars.p a.vars.n a.vars.cap,.slice a.things.p a.things.n a.things.cap,.int .i64 a.taken,.slice a.lines.p a.lines.n a.lines.cap,.int .i64 a.ending])] []) (fun c _=>a.lines.n - (intOf c).toNat)
   case atStart=>exact⟨0,Nat.zero_le _,rfl,fun j af=>absurd af (by omega),J⟩
   case round=>
    obtain⟨k,aR,rfl,ag,J⟩:=hrel;have ae:=za ag;clear ag;by_cases o:k<a.lines.n
    ·have U:k<b.lines.n:=by rw[aN.out];exact o
     have ak:=za (aI.out (by omega));have al:=za (aJ.out (by omega));have ar:=za (show zd prog 9 w aP (aS+k) (.string (R k)) by have h:=zd.cell (P:=prog) zfV (a0.out k o).1 ((a0.out k o).2 0 _ rfl);rw[Nat.mul_one,Nat.add_zero]at h;exact h);have au:=za (show zd prog 9 w aQ (aT+k) (.string (lb k)) by have h:=zd.cell (P:=prog) zfV (a1.out k U).1 ((a1.out k U).2 0 _ rfl);rw[Nat.mul_one,Nat.add_zero]at h;exact h);go_upto_region 11 with(with_reducible refine lld J ?_)
     refine zb [95,96,97,98,99,100,101,102,103,104,105] ?_
     iterate 3 refine qdv ?_
     refine qdx ak.out ?_;refine qdl ar.out ?_
     iterate 3 refine qdv ?_
     refine qdx al.out ?_;refine qdl au.out ?_;refine qdv ?_;refine dnd J ?_;clear J;intro aE J;simp only[zr,sTa,sTb];cases i:yC R lb k with
     | true=>
      have h0:=i;unfold yC at h0;simp only[h0];clear h0;have an:=za (qg o i);clear i;go_wp2;refine rt1 ?_;exact⟨by rw[a2.out,an.out];rfl,J.below⟩
     | false=>
      have h0:=i;unfold yC at h0;simp only[h0];clear h0;have ao:=za i;clear i;go_wp2;go_roundw
      case rel=>
       refine⟨k+1,by omega,by go_num,fun j af=>?_,J⟩;rcases Nat.lt_or_ge j k with h|h
       ·exact ae.out j h
       ·obtain rfl:j=k:=by omega
        exact ao.out
      case measure=>simp[intOf];omega
    ·obtain rfl:k=a.lines.n:=by omega
     go_wp2_with (with_reducible refine lld J ?_);refine rt1 ?_;exact⟨by rw[a2.out,qu ae.out];rfl,J.below⟩
end Go.Proofs.YtplcndmdkabmeaaGreatDoor
