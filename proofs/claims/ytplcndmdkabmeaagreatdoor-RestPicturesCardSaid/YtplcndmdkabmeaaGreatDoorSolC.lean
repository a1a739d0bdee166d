/- The walk over the solver's round. Conditions: right pictures, one for each place, in the caller's own memory. -/
import Derived.Test.YtplcndmdkabmeaaGreatDoorSolB
set_option linter.unusedSimpArgs false
set_option linter.unusedVariables false
set_option maxRecDepth 100000
set_option maxHeartbeats 4000000
namespace Go.Proofs.YtplcndmdkabmeaaGreatDoor
open Go.Proofs.Tryz
open Go.RowKit
theorem zcC.fits {p:Pg}{is:Nat->Ins}{x:EdX}{W:World}(C:zf p is=0) (h:zcC p is x W):(0<=x.d.1∧x.d.1<=p.n)∧zE p is x.d.2=0:=by
 obtain⟨d,I,g⟩:=h.of;unfold Qo at g;by_cases j:d.none=true
 ·rw[if_pos j]at g;cases g
 ·rw[if_neg j]at g
  obtain⟨o,t⟩:=zbv C (q2.of I (by simpa using j)) h.i _ g;exact⟨o,t.right⟩
theorem zdN {p:Pg}{is:Nat->Ins}(g:zf p is=0) {d e:Pd}(h:zE p is d=0) (i : zE p is e=0):ju d∧ju e∧(d.none=false->e.none=false->Zm d e):=by
 have C:=(zp g).1;have few:∀ d:Pd,zE p is d=0->ju d:=fun d h=>by
  cases j:d.none with
  | true=>rw[zS.none h j];exact ju.none
  | false=>exact ju.of (zS.of h g j) C
 exact⟨few d h,few e i,fun o t=>Zm.of (zS.of h g o) (zS.of i g t)⟩
theorem Loc.also7 {w0 w:World}{L:List zg}{D:List zl}(h:Loc w0 w L D) {b:Nat}{T:TypeId}{o:List Value}(hb:w.heap[b]? = some (.cells o.toArray T (0,0))) (t:w0.heap.size<=b) (hT:∀ e∈L,e.2.1≠T):Loc w0 w L (y6 b T o::D):=by
 refine⟨h.below,h.nodup,h.ids,h.cells,fun S i=>?_⟩;rcases List.mem_cons.1 i with rfl|i
 ·refine⟨fun c=>c=b,fun c j=>⟨⟨by rw[j];exact zz hb,by rw[j];exact t⟩,fun e p C=>?_⟩,fun P I=>(I b rfl).trans hb⟩
  have g:=h.cells e p;rw[C,j,hb]at g;simp only[Option.some.injEq,Obj.cells.injEq]at g;exact hT e p g.2.1.symm
 ·exact h.data S i
def Zy (B:Nat) (W:World):zl:=fun w=>∀ b,B<=b->b<W.heap.size->w.heap[b]? = W.heap[b]?
theorem Loc.kept {w0 w:World}{L:List zg}{D:List zl}(h:Loc w0 w L D) {B:Nat}(j:w0.heap.size<=B) (J:∀ e∈L,e.1<B):Loc w0 w L (Zy B w::D):=by
 refine⟨h.below,h.nodup,h.ids,h.cells,fun S g=>?_⟩;rcases List.mem_cons.1 g with rfl|g
 ·exact⟨fun c=>B<=c∧c<w.heap.size,fun c i=>⟨⟨i.2,Nat.le_trans j i.1⟩,fun e t I=>by have:=J e t;omega⟩,fun P C b o p=>C b ⟨o,p⟩⟩
 ·exact h.data S g
theorem Zy.keep {B:Nat}{W w:World}(h:Zy B W w) (j:B<W.heap.size):Q8 B W w:=by
 refine⟨?_,h⟩;have g:=h (W.heap.size - 1) (by omega) (by omega);have i:w.heap[W.heap.size - 1]? = some (W.heap[W.heap.size - 1]'(by omega)):=by rw[g];exact Array.getElem?_eq_getElem _
 have:=zz i;omega
theorem Q0 {P:Program}{n:Nat}{r:Option Nat}{a:Act}{w:World}{Q:Exit->Act->World->Prop}{id:Nat}{ops:Array Oper}(h:Qw P ops Q a w) (g:ops.toList.all (fun j=>!Q7 j)=true:=by decide) (i:¬ LetsOut Q:=by(rintro⟨_,_,h⟩;exact h)):(Code.region id ops true).wpIn (inR r) n P Q a w:=GG g i h
theorem Q1 {P:Program}{n:Nat}{r:Option Nat}{a:Act}{w:World}{Q:Exit->Act->World->Prop}{id:Nat}{l:List Oper}(h:wpList P l.toArray Q l a w) (g:l.all (fun j=>!Q7 j)=true:=by decide) (i:¬ LetsOut Q:=by(rintro⟨_,_,h⟩;exact h)):(Code.region id l.toArray false).wpIn (inR r) n P Q a w:=je g i h
theorem zgs:∀ args w,(callFunc 61 args).run prog w=.ok (.enter 61 args) w:=fun args w=>by kernel_rfl
theorem y9 {p:Pg}{is:Nat->Ins}(j:zf p is=0) {d:Pd}(h:zE p is d=0):d.vars.length+d.fields.length<=9223372036854775807:=by
 cases i:d.none with
 | true=>rw[zS.none h i];decide
 | false=>
  have g:=zS.of h j i;have o:=(zp j).1;have t:=g.vars;have C:=o.v2;have I:=g.fields;have P:=o.n1;omega
def y4 (g:World) (d:Pd):Value->World->Prop:=fun v w=>∃ r:Pv,v=.agg #[.bool r.none,.slice r.vars.p r.vars.n r.vars.cap,.slice r.fields.p r.fields.n r.fields.cap]∧Loc g w [] [fun w=>zq w r d]
theorem y4.stable {o:World}{d:Pd}:qC (y4 o d):=by
 rintro v w p j ⟨r,g,i⟩;exact⟨r,g,i.grow j⟩
theorem Ym:jy prog 142:=⟨by kernel_rfl,by kernel_rfl⟩
theorem zeX:yx prog 4 [.bool false]:=⟨by kernel_rfl⟩
theorem zgt:yx prog 22 [.int .i64 0]:=⟨by kernel_rfl⟩
theorem zdO (p:Pg) (is:Nat->Ins) (aB:zf p is=0) (w0:World) (hc:zy w0 p is) (I:Nat) (b5:Sl) (n:Nat) (l:List Pd) (b1:qE p is l) (w:World) (bY:Jg w0 p I b5 [] l w):
  Calls prog 111 #[.pointer (some ⟨I,0,none⟩),.int .i64 n] w fun e U=>e=.returned (.bool (z8 is (q3 (decide (3<n))) Prod.fst p.n (l,false)).2)∧Jg w0 p I b5 [] (z8 is (q3 (decide (3<n))) Prod.fst p.n (l,false)).1 U∧qE p is (z8 is (q3 (decide (3<n))) Prod.fst p.n (l,false)).1:=by
 refine(callsIn_wide (n:=2)).1 ?_;refine callsIn_of_wp_marks func111 rfl trivial ?_ rfl;simp only[ntmps111,List.size_toArray,List.length_cons,List.length_nil,Nat.reduceAdd,Nat.reduceSub,Array.replicate_succ,Array.replicate_zero,List.push_toArray,List.append_toArray,aX];obtain⟨ak,R,aA,P,J⟩:=bY;rw[List.append_nil]at J;obtain⟨sp,aO,bc⟩:=b5;have bI:=P.flatlen Jy (by decide);obtain⟨a0,b7,ba,rfl,-,-⟩:=P.block (by have:=b1.len;omega);dsimp only at ba bI;subst ba;clear bI;show Code.wpIn (inR none) _ _ _ _ _ _
 iterate 2 gi_step
 refine je ?hd0 ?hq0 ?hw0
 case hd0=>decide
 case hq0=>rintro⟨_,_,⟨v,bS⟩,_⟩
 go_wp2_with (first|((with_reducible refine lbx (T:=142) J ?_);clear J;intro aK aa J)|((with_reducible refine lbx (T:=3) J ?_);clear J;intro aL aa J))
 gi_step
 refine je ?hd1 ?hq1 ?hw1
 case hd1=>decide
 case hq1=>rintro⟨_,_,⟨v,bS⟩,_⟩
 go_wp2_with (first|((with_reducible refine lal J ?_ (hz:=zeX));clear J;intro aq aa J)|(with_reducible first|refine lld J ?_|((first|refine lbx J ?_|refine lal J ?_|refine lbs J ?_);clear J;intro az aa J)|(refine zc J ?_;clear J;intro aa J)))
 iterate 2 gi_step
 refine je ?hd2 ?hq2 ?hw2
 case hd2=>decide
 case hq2=>rintro⟨_,_,⟨v,bS⟩,_⟩
 go_wp2_with (first|(refine ldO (zn.cell Ym rfl) J ?_)|(with_reducible first|refine lld J ?_|((first|refine lbx J ?_|refine lal J ?_|refine lbs J ?_);clear J;intro az aa J)|(refine zc J ?_;clear J;intro aa J)))
 gi_step
 obtain⟨av,hwb⟩:∃ x,x=aa:=⟨_,rfl⟩;subst hwb;have b9:Jg w0 p I ⟨some ⟨a0,0,none⟩,aO,bc⟩ [(aq,4,[.bool false]),(aL,3,[.int .i64 n]),(aK,142,[.pointer (some ⟨I,0,none⟩)])] l av:=
  ⟨ak,[(a0,54,b7)],aA,P,J.perm (by
   have bO:=@List.perm_append_comm zg [(aq,4,[.bool false]),(aL,3,[.int .i64 n]),(aK,142,[.pointer (some ⟨I,0,none⟩)])] [(I,144,[.int .i64 p.vars,.int .i64 p.fields,.slice p.pc p.n p.cap,.slice (some ⟨a0,0,none⟩) aO bc]),(a0,54,b7)];simp only[aX]at bO;exact bO.symm)⟩
 have cd:=J.size;have bL:I<av.heap.size∧a0<av.heap.size∧aK<av.heap.size∧aL<av.heap.size∧aq<av.heap.size:=⟨zz (J.cells (I,_,_) cMm),zz (J.cells (a0,_,_) cMm),zz (J.cells (aK,_,_) cMm),zz (J.cells (aL,_,_) cMm),zz (J.cells (aq,_,_) cMm)⟩;clear J P aA;refine VF (gf:=99) (fb:=#[.pointer (some ⟨I,0,none⟩)]) (lb:=#[]) (σ:=List Pd × Bool) (encs:=EdX.encs) (Need:=fun s=>Uj p is I ⟨some ⟨a0,0,none⟩,aO,bc⟩ s.1) (G:=zcD p is Prod.fst) (next:=fun s x=>q3 (decide (3<n)) x.i x.d s) (fin:=z8 is (q3 (decide (3<n))) Prod.fst p.n) rfl (fun args w=>by kernel_rfl) (fun _=>rfl)
  (zba p is aB I ⟨some ⟨a0,0,none⟩,aO,bc⟩ (q3 (decide (3<n))) Prod.fst _ _)
  (fun s W=>Jg w0 p I ⟨some ⟨a0,0,none⟩,aO,bc⟩ [(aq,4,[.bool s.2]),(aL,3,[.int .i64 n]),(aK,142,[.pointer (some ⟨I,0,none⟩)])] s.1 W∧qE p is s.1)
  (fun _=>False) ?hJ ?hJx ?hN ?hG (l,false) ⟨b9,b1⟩
  (fun x bp W=>∃ a6,w0.heap.size<=a6∧bp=⟨#[.pointer (some ⟨I,0,none⟩),.int .i64 n,.pointer (some ⟨aK,0,none⟩),.pointer (some ⟨aL,0,none⟩),.bool false,.pointer (some ⟨aq,0,none⟩),.int .i64 x.i,.pointer (some ⟨a6,0,none⟩),undef,.pointer (some ⟨I,0,none⟩),.func (.func 99) #[.pointer (some ⟨I,0,none⟩)] #[],.int .i64 x.i,.agg #[.int .i64 x.e.go,.bool x.e.x.none,.slice x.e.x.vars.p x.e.x.vars.n x.e.x.vars.cap,.slice x.e.x.fields.p x.e.x.fields.n x.e.x.fields.cap],undef,undef,undef,undef,undef,undef,undef,undef,undef,undef,undef,undef,undef,undef,undef,undef,undef,undef,undef,undef,undef,undef,undef,undef,undef,undef,undef,undef,undef,undef,undef,undef,undef,undef,undef,undef,undef,undef,undef],[]⟩∧W.heap[a6]? = some (.cells #[.int .i64 x.e.go,.bool x.e.x.none,.slice x.e.x.vars.p x.e.x.vars.n x.e.x.vars.cap,.slice x.e.x.fields.p x.e.x.fields.n x.e.x.fields.cap] 75 (0,0)))
  ?hAx ?hassign ?hbody ?hdone ?hstop
 case hJ=>
  exact fun s=>⟨fun W bW hb h=>⟨h.1.grow hb,h.2⟩,fun W r cl b3 h=>⟨h.1.turn (by omega) (fun ⟨_,_,_,hc⟩=>by rw[b3]at hc;cases hc),h.2⟩⟩
 case hJx=>exact⟨fun _ _ _ h=>h,fun _ _ _ _ h=>h⟩
 case hN=>exact fun s W h=>h.1.at' hc h.2
 case hG=>exact fun s x=>zcD.abides
 case hAx=>
  refine fun x bp=>⟨fun W bW hb ⟨a6,bz,ab,ac⟩=>⟨a6,bz,ab,by rw[hb.block _ (zz ac)];exact ac⟩,fun W r cl b3 ⟨a6,bz,ab,ac⟩=>⟨a6,bz,ab,?_⟩⟩
  rw[World.putObj_heap_other (fun e=>by rw[e,b3]at ac;cases ac)];exact ac
 case hstop=>exact fun D W _ h=>h.elim
 case hassign=>
  rintro ck s ⟨i,⟨bu,⟨bv,⟨bw,bx,bq⟩,⟨bt,bs,br⟩⟩⟩,cp⟩ W K aC aD aS;dsimp only[EdX.encs];simp only[List.zip_toArray,List.zip_cons_cons,List.zip_nil_left,List.zip_nil_right,List.foldl_toArray,List.foldl_cons,List.foldl_nil,List.setIfInBounds_toArray,List.set_cons_succ,List.set_cons_zero];dsimp only at aS ⊢;have J:=Loc.start W
  iterate 2 gi_step
  refine je ?hd3 ?hq3 ?hw3
  case hd3=>decide
  case hq3=>rintro⟨_,_,h⟩;exact h
  go_wp2;refine je ?hd4 ?hq4 ?hw4
  case hd4=>decide
  case hq4=>rintro⟨_,_,h⟩;exact h
  go_wp2_with (with_reducible first|refine lld J ?_|((first|refine lbx J ?_|refine lal J ?_|refine lbs J ?_);clear J;intro az aa J)|(refine zc J ?_;clear J;intro aa J));have aR:W.heap.size<=az:=J.ids _ List.mem_cons_self;have cj:w0.heap.size<=W.heap.size:=by obtain⟨_,_,_,_,aT⟩:=aC.1;exact aT.size
  exact aS _ _ J.below ⟨az,Nat.le_trans cj aR,rfl,J.heap cIn⟩
 case hbody=>
  intro ck s x bp W cs aC aD bZ;replace aD:=aD.1;obtain⟨bJ,bg⟩:=aD.fits aB;have bK:=aD.go;have bf:=aD.x;clear aD;obtain⟨i,⟨bu,⟨bv,⟨bw,bx,bq⟩,⟨bt,bs,br⟩⟩⟩,⟨dg,o⟩⟩:=x;dsimp only at bJ bg bK bf;subst bK;obtain⟨t,rfl⟩:∃ t:Nat,bu=t:=⟨bu.toNat,by omega⟩;have bh:t<=p.n:=by omega
  clear bJ;obtain⟨a6,cb,rfl,aR⟩:=bZ;obtain⟨⟨ak,R,aA,P,J⟩,a2⟩:=aC;obtain⟨l,ch⟩:=s;dsimp only at a2 aA P J aR;have bN:=P.flatlen Jy (by decide);have bM:=a2.len;have bR:t<aO:=by rw[bN];omega
  obtain⟨a1,ax,ba,rfl,cf,bB⟩:=P.block (by omega);obtain rfl:a1=a0:=by simpa using ba.symm
  have bC:=P.elem Jy qJ (k:=t) bR;have bP:=fun g=>P.put Jy qJ (k:=t) bR g
  have bH:=P.fits;have bo:=za (show t*3+3<=ax.length by rw[bB];omega);have a3:=za (show zn prog 54 ax (t*3) (ak.getD t qJ).v from zn.agg Zj bC rfl);have b2:=J.get (S:=yD ak l) List.mem_cons_self t (by omega);obtain⟨bD,bE,bF⟩:=zdN aB (a2.r t bh) bg;have aY:q3 (decide (3<n)) i ((t:Int),o) (l,ch)=if qt o (l.getD t zC)=true then (l,ch) else (l.set t (jM (if (decide (3<n)&&decide ((t:Int)<=i))=true then jf else both) (l.getD t zC) o),true):=rfl
  have aZ:=qE.next (s:=(l,ch)) (nb:=decide (3<n)) (i:=i) (x:=((t:Int),o)) aB a2 bg ⟨by omega,by show (t:Int)<=p.n;omega⟩;rw[aY]at aZ;replace J:=J.also7 aR cb (by intro e a9;simp only[List.mem_cons,List.mem_append,List.not_mem_nil,or_false]at a9;rcases a9 with rfl|rfl|rfl|rfl|rfl<;>(dsimp only;decide));replace J:=J.kept (B:=av.heap.size) cd (by intro e a9;simp only[List.mem_cons,List.mem_append,List.not_mem_nil,or_false]at a9;obtain⟨ab,ac,aM,cq,b8⟩:=bL;rcases a9 with rfl|rfl|rfl|rfl|rfl<;>assumption);have aW:=fun U (hb:Below W.heap.size W U)=>UF ⟨bv,⟨bw,bx,bq⟩,⟨bt,bs,br⟩⟩ (ak.getD t qJ) o (l.getD t zC) U (bf.grow hb) (b2.grow hb)
  have aV:=fun (K:FuncId) (f:zm->zm->zm) (a9:∀ args w,(callFunc K args).run prog w=.ok (.enter K args) w) (cc:∀ (s t:zm) (w:World),Calls prog K #[s.v,t.v] w fun e U=>e=.returned (f s t).v∧Below w.heap.size w U) U (hb:Below W.heap.size W U)=>Ua K f a9 cc (ak.getD t qJ) ⟨bv,⟨bw,bx,bq⟩,⟨bt,bs,br⟩⟩ (l.getD t zC) o U (b2.grow hb) (bf.grow hb) bD bE bF
  have bQ:=fun (w:World) (r:Pv) (d:Pd) (ab:zq w r d) (ac:yD ak l w)=>ac.set aA (t:=t) ab
  clear bN ba cf bC b2 bf bD bE bF bg bB aR hc;generalize hq1:ak.getD t qJ=cm at a3 aW aV;generalize qt o (l.getD t zC)=b4 at aW aY aZ;generalize l.getD t zC=lt at aV aY aZ;clear hq1;obtain⟨cx,⟨cy,cz,ct⟩,⟨cw,cv,cu⟩⟩:=cm;dsimp only[Pv.v]at a3 aW aV;have aF:=za aW;have aE:=za aV;have bn:=za bQ;have aI:=za aY;have aJ:=za aZ;have bk:=za a2;have bl:=za bP;have bm:=za P;have aH:=za aA;have bj:=za bM;have cn:=za bH;clear aW aV bQ aY aZ a2 bP P aA bM bH bL b9 b1;simp only[Nat.reduceSub]
  iterate 3 gi_step
  refine je ?hd5 ?hq5 ?hw5
  case hd5=>decide
  case hq5=>rintro⟨_,_,h⟩;exact h
  go_wp2
  iterate 2 gi_step
  refine je ?hd6 ?hq6 ?hw6
  case hd6=>decide
  case hq6=>rintro⟨_,_,h⟩;exact h
  by_cases aM:3<n
  ·have be:decide ((3:Int)<(n:Int))=true:=decide_eq_true (by omega)
   by_cases aN:(t:Int)<=i
   ·have b0:decide ((t:Int)<=(i:Int))=true:=decide_eq_true aN
    have aw:=za (aE.out 61 jf zgs X1);have j:=aI.out;have C:=aJ.out;rw[show (if (decide (3<n)&&decide ((t:Int)<=i))=true then jf else both)=jf by simp[aM,aN]]at j C;have ao:=za j;have a5:=za C;generalize jf=f at aw ao a5;clear j C aI aJ aE;go_wp2_with (with_reducible first|refine lld J ?_|((first|refine lbx J ?_|refine lal J ?_|refine lbs J ?_);clear J;intro az aa J)|(refine zc J ?_;clear J;intro aa J)|refine ldD J ?_)
    gi_step
    refine je ?hd7 ?hq7 ?hw7
    case hd7=>decide
    case hq7=>rintro⟨_,_,h⟩;exact h
    go_wp2;clear be b0 aN aM
    iterate 2 gi_step
    simp only[aX]at J;refine Q0 ?_;refine jB [21,22,23,24,25,26,27,28,29,30,31] ?_
    iterate 2 refine qdv ?_
    refine yz Ym ?_;refine' j2 J ?_ ?_;rotate_left
    ·intro g w hb J _ q;simp only[aG]at q;simp only[fD];simp only[q]
     go_wp2;exact cY
    iterate 5 refine qdv ?_
    refine yT a3.out ?_;refine qdk J (fun _ hb J=>aF.out _ hb) ?_;refine Kt J ?_;intro g au hb _ q;simp only[aG]at q;simp only[fD];simp only[q];clear q;replace J:=J.grow hb;have ay:=hb;clear hb;clear aF;cases b4 with
    | true=>
     go_wp2
     iterate 2 gi_step
     simp only[Exit.then,Exit.inBlock,↓reduceIte];have j:=ao.out;rw[if_pos (by first|rfl|trivial)]at j;refine⟨⟨?_,?_⟩,(J.get (S:=Zy av.heap.size W) cMm).keep (by omega)⟩
     ·change Jg w0 p I _ [(aq,4,[.bool (q3 (decide (3<n)) i ((t:Int),o) (l,ch)).2]),_,_] (q3 (decide (3<n)) i ((t:Int),o) (l,ch)).1 au
      rw[j];exact⟨ak,[(a1,54,ax)],aH.out,bm.out,J.drop (List.Sublist.refl _) (fun S an=>List.mem_cons_of_mem _ (List.mem_cons_of_mem _ an))⟩
     ·change qE p is (q3 (decide (3<n)) i ((t:Int),o) (l,ch)).1
      rw[j];exact bk.out
    | false=>
     have C:=a5.out;rw[if_neg (by decide)]at C;have aQ:=za C;have a7:zE p is (jM f lt o)=0:=by
      have ab:=C.r t bh;rwa [qs _ _ _ _ _ (by rw[bj.out];omega),if_pos rfl]at ab
     have aU:=y9 aB a7;have aP:=za (fun U (hb:Below au.heap.size au U)=>aw.out U (ay.trans (hb.mono ay.size)));have j:=ao.out;rw[if_neg (by decide)]at j;have a4:=za j;clear aw C a7 j ao ay;generalize hd3:jM f lt o=d3 at *;clear hd3;go_wp2
     iterate 5 gi_step
     obtain⟨a8,bb⟩:∃ x,x=au:=⟨_,rfl⟩;subst bb;refine Q0 ?_;refine jB [32,33,34,35,36,37,38,39,40,41,42,43,44,45,46,47,48,49,50] ?_;refine yz Ym ?_
     iterate 5 refine qdv ?_
     refine yz Ym ?_
     iterate 6 refine qdv ?_
     refine yT a3.out ?_
     iterate 3 refine qdv ?_
     refine qdn (y4 a8 d3) y4.stable J ?_ ?_
     ·intro g w hb J _ q;simp only[aG]at q;simp only[fD];simp only[q]
      go_wp2_with (go_at_call 59;refine(aP.out _ hb).mono ?_;rintro e bT ⟨r,rfl,hG⟩;dsimp only);exact⟨rfl,_,rfl,hG.below,r,rfl,Loc.since hb ((Loc.start _).gotP hG aU)⟩
     refine qdv ?_;refine Kt J ?_;intro g bd hb P q;simp only[aG]at q;have ar:(y4 a8 d3) (g 49) bd:=qye P 17;obtain⟨⟨ag,⟨ah,aj,ai⟩,⟨af,ae,ad⟩⟩,ar,hG⟩:=ar;clear P;simp only[fD];simp only[q,ar];clear q ar;replace J:=J.gave hG;clear hb;simp only[List.append_nil,aX]at J;go_wp2_with (refine zR (b:=a1) (off:=t*3) (vs:=Pv.cells ⟨ag,⟨ah,aj,ai⟩,⟨af,ae,ad⟩⟩) (cs':=zj ax (t*3) (Pv.cells ⟨ag,⟨ah,aj,ai⟩,⟨af,ae,ad⟩⟩)) J rfl rfl cIn rfl Zj.sz rfl bo.out rfl ?_;clear J;intro U J);refine Q1 ?_;go_wp2_with (with_reducible first|refine lld J ?_|((first|refine lbx J ?_|refine lal J ?_|refine lbs J ?_);clear J;intro az aa J)|(refine zc J ?_;clear J;intro aa J))
     (try simp only[Exit.then,Exit.inBlock,↓reduceIte])
     refine⟨⟨?_,?_⟩,(J.get (S:=Zy av.heap.size W) cMm).keep (by omega)⟩
     ·change Jg w0 p I _ [(aq,4,[.bool (q3 (decide (3<n)) i ((t:Int),o) (l,ch)).2]),_,_] (q3 (decide (3<n)) i ((t:Int),o) (l,ch)).1 _
      rw[a4.out];refine⟨ak.set t ⟨ag,⟨ah,aj,ai⟩,⟨af,ae,ad⟩⟩,[(a1,54,zj ax (t*3) (Pv.cells ⟨ag,⟨ah,aj,ai⟩,⟨af,ae,ad⟩⟩))],by simp only[List.length_set];exact aH.out,bl.out _,?_⟩;refine(J.drop (D':=[fun w=>zq w ⟨ag,⟨ah,aj,ai⟩,⟨af,ae,ad⟩⟩ d3,yD ak l]) (List.Sublist.refl _) (fun S an=>?_)).both (fun w ab ac=>bn.out w _ d3 ab ac);simp only[List.mem_cons,List.not_mem_nil,or_false]at an ⊢;rcases an with rfl|rfl<;>simp
     ·change qE p is (q3 (decide (3<n)) i ((t:Int),o) (l,ch)).1
      rw[a4.out];exact aQ.out
   ·have b0:decide ((t:Int)<=(i:Int))=false:=decide_eq_false aN
    have aw:=za (aE.out 60 both YP Qy);have j:=aI.out;have C:=aJ.out;rw[show (if (decide (3<n)&&decide ((t:Int)<=i))=true then jf else both)=both by simp[aN]]at j C;have ao:=za j;have a5:=za C;generalize both=f at aw ao a5;clear j C aI aJ aE;go_wp2_with (with_reducible first|refine lld J ?_|((first|refine lbx J ?_|refine lal J ?_|refine lbs J ?_);clear J;intro az aa J)|(refine zc J ?_;clear J;intro aa J)|refine ldD J ?_)
    iterate 6 gi_step
    clear be b0 aN aM;simp only[aX]at J;refine Q0 ?_;refine jB [21,22,23,24,25,26,27,28,29,30,31] ?_
    iterate 2 refine qdv ?_
    refine yz Ym ?_;refine' j2 J ?_ ?_;rotate_left
    ·intro g w hb J _ q;simp only[aG]at q;simp only[fD];simp only[q]
     go_wp2;exact cY
    iterate 5 refine qdv ?_
    refine yT a3.out ?_;refine qdk J (fun _ hb J=>aF.out _ hb) ?_;refine Kt J ?_;intro g au hb _ q;simp only[aG]at q;simp only[fD];simp only[q];clear q;replace J:=J.grow hb;have ay:=hb;clear hb;clear aF;cases b4 with
    | true=>
     go_wp2
     iterate 2 gi_step
     simp only[Exit.then,Exit.inBlock,↓reduceIte];have j:=ao.out;rw[if_pos (by first|rfl|trivial)]at j;refine⟨⟨?_,?_⟩,(J.get (S:=Zy av.heap.size W) cMm).keep (by omega)⟩
     ·change Jg w0 p I _ [(aq,4,[.bool (q3 (decide (3<n)) i ((t:Int),o) (l,ch)).2]),_,_] (q3 (decide (3<n)) i ((t:Int),o) (l,ch)).1 au
      rw[j];exact⟨ak,[(a1,54,ax)],aH.out,bm.out,J.drop (List.Sublist.refl _) (fun S an=>List.mem_cons_of_mem _ (List.mem_cons_of_mem _ an))⟩
     ·change qE p is (q3 (decide (3<n)) i ((t:Int),o) (l,ch)).1
      rw[j];exact bk.out
    | false=>
     have C:=a5.out;rw[if_neg (by decide)]at C;have aQ:=za C;have a7:zE p is (jM f lt o)=0:=by
      have ab:=C.r t bh;rwa [qs _ _ _ _ _ (by rw[bj.out];omega),if_pos rfl]at ab
     have aU:=y9 aB a7;have aP:=za (fun U (hb:Below au.heap.size au U)=>aw.out U (ay.trans (hb.mono ay.size)));have j:=ao.out;rw[if_neg (by decide)]at j;have a4:=za j;clear aw C a7 j ao ay;generalize hd3:jM f lt o=d3 at *;clear hd3;go_wp2
     iterate 5 gi_step
     obtain⟨a8,bb⟩:∃ x,x=au:=⟨_,rfl⟩;subst bb;refine Q0 ?_;refine jB [32,33,34,35,36,37,38,39,40,41,42,43,44,45,46,47,48,49,50] ?_;refine yz Ym ?_
     iterate 5 refine qdv ?_
     refine yz Ym ?_
     iterate 6 refine qdv ?_
     refine yT a3.out ?_
     iterate 3 refine qdv ?_
     refine qdn (y4 a8 d3) y4.stable J ?_ ?_
     ·intro g w hb J _ q;simp only[aG]at q;simp only[fD];simp only[q]
      go_wp2_with (go_at_call 59;refine(aP.out _ hb).mono ?_;rintro e bT ⟨r,rfl,hG⟩;dsimp only);exact⟨rfl,_,rfl,hG.below,r,rfl,Loc.since hb ((Loc.start _).gotP hG aU)⟩
     refine qdv ?_;refine Kt J ?_;intro g bd hb P q;simp only[aG]at q;have ar:(y4 a8 d3) (g 49) bd:=qye P 17;obtain⟨⟨ag,⟨ah,aj,ai⟩,⟨af,ae,ad⟩⟩,ar,hG⟩:=ar;clear P;simp only[fD];simp only[q,ar];clear q ar;replace J:=J.gave hG;clear hb;simp only[List.append_nil,aX]at J;go_wp2_with (refine zR (b:=a1) (off:=t*3) (vs:=Pv.cells ⟨ag,⟨ah,aj,ai⟩,⟨af,ae,ad⟩⟩) (cs':=zj ax (t*3) (Pv.cells ⟨ag,⟨ah,aj,ai⟩,⟨af,ae,ad⟩⟩)) J rfl rfl cIn rfl Zj.sz rfl bo.out rfl ?_;clear J;intro U J);refine Q1 ?_;go_wp2_with (with_reducible first|refine lld J ?_|((first|refine lbx J ?_|refine lal J ?_|refine lbs J ?_);clear J;intro az aa J)|(refine zc J ?_;clear J;intro aa J))
     (try simp only[Exit.then,Exit.inBlock,↓reduceIte])
     refine⟨⟨?_,?_⟩,(J.get (S:=Zy av.heap.size W) cMm).keep (by omega)⟩
     ·change Jg w0 p I _ [(aq,4,[.bool (q3 (decide (3<n)) i ((t:Int),o) (l,ch)).2]),_,_] (q3 (decide (3<n)) i ((t:Int),o) (l,ch)).1 _
      rw[a4.out];refine⟨ak.set t ⟨ag,⟨ah,aj,ai⟩,⟨af,ae,ad⟩⟩,[(a1,54,zj ax (t*3) (Pv.cells ⟨ag,⟨ah,aj,ai⟩,⟨af,ae,ad⟩⟩))],by simp only[List.length_set];exact aH.out,bl.out _,?_⟩;refine(J.drop (D':=[fun w=>zq w ⟨ag,⟨ah,aj,ai⟩,⟨af,ae,ad⟩⟩ d3,yD ak l]) (List.Sublist.refl _) (fun S an=>?_)).both (fun w ab ac=>bn.out w _ d3 ab ac);simp only[List.mem_cons,List.not_mem_nil,or_false]at an ⊢;rcases an with rfl|rfl<;>simp
     ·change qE p is (q3 (decide (3<n)) i ((t:Int),o) (l,ch)).1
      rw[a4.out];exact aQ.out
  ·have be:decide ((3:Int)<(n:Int))=false:=decide_eq_false (by omega)
   all_goals
    have aw:=za (aE.out 60 both YP Qy);have j:=aI.out;have C:=aJ.out;rw[show (if (decide (3<n)&&decide ((t:Int)<=i))=true then jf else both)=both by simp[aM]]at j C;have ao:=za j;have a5:=za C;generalize both=f at aw ao a5;clear j C aI aJ aE;go_wp2_with (with_reducible first|refine lld J ?_|((first|refine lbx J ?_|refine lal J ?_|refine lbs J ?_);clear J;intro az aa J)|(refine zc J ?_;clear J;intro aa J)|refine ldD J ?_)
    iterate 6 gi_step
    clear be aM;simp only[aX]at J;refine Q0 ?_;refine jB [21,22,23,24,25,26,27,28,29,30,31] ?_
    iterate 2 refine qdv ?_
    refine yz Ym ?_;refine' j2 J ?_ ?_;rotate_left
    ·intro g w hb J _ q;simp only[aG]at q;simp only[fD];simp only[q]
     go_wp2;exact cY
    iterate 5 refine qdv ?_
    refine yT a3.out ?_;refine qdk J (fun _ hb J=>aF.out _ hb) ?_;refine Kt J ?_;intro g au hb _ q;simp only[aG]at q;simp only[fD];simp only[q];clear q;replace J:=J.grow hb;have ay:=hb;clear hb;clear aF;cases b4 with
    | true=>
     go_wp2
     iterate 2 gi_step
     simp only[Exit.then,Exit.inBlock,↓reduceIte];have j:=ao.out;rw[if_pos (by first|rfl|trivial)]at j;refine⟨⟨?_,?_⟩,(J.get (S:=Zy av.heap.size W) cMm).keep (by omega)⟩
     ·change Jg w0 p I _ [(aq,4,[.bool (q3 (decide (3<n)) i ((t:Int),o) (l,ch)).2]),_,_] (q3 (decide (3<n)) i ((t:Int),o) (l,ch)).1 au
      rw[j];exact⟨ak,[(a1,54,ax)],aH.out,bm.out,J.drop (List.Sublist.refl _) (fun S an=>List.mem_cons_of_mem _ (List.mem_cons_of_mem _ an))⟩
     ·change qE p is (q3 (decide (3<n)) i ((t:Int),o) (l,ch)).1
      rw[j];exact bk.out
    | false=>
     have C:=a5.out;rw[if_neg (by decide)]at C;have aQ:=za C;have a7:zE p is (jM f lt o)=0:=by
      have ab:=C.r t bh;rwa [qs _ _ _ _ _ (by rw[bj.out];omega),if_pos rfl]at ab
     have aU:=y9 aB a7;have aP:=za (fun U (hb:Below au.heap.size au U)=>aw.out U (ay.trans (hb.mono ay.size)));have j:=ao.out;rw[if_neg (by decide)]at j;have a4:=za j;clear aw C a7 j ao ay;generalize hd3:jM f lt o=d3 at *;clear hd3;go_wp2
     iterate 5 gi_step
     obtain⟨a8,bb⟩:∃ x,x=au:=⟨_,rfl⟩;subst bb;refine Q0 ?_;refine jB [32,33,34,35,36,37,38,39,40,41,42,43,44,45,46,47,48,49,50] ?_;refine yz Ym ?_
     iterate 5 refine qdv ?_
     refine yz Ym ?_
     iterate 6 refine qdv ?_
     refine yT a3.out ?_
     iterate 3 refine qdv ?_
     refine qdn (y4 a8 d3) y4.stable J ?_ ?_
     ·intro g w hb J _ q;simp only[aG]at q;simp only[fD];simp only[q]
      go_wp2_with (go_at_call 59;refine(aP.out _ hb).mono ?_;rintro e bT ⟨r,rfl,hG⟩;dsimp only);exact⟨rfl,_,rfl,hG.below,r,rfl,Loc.since hb ((Loc.start _).gotP hG aU)⟩
     refine qdv ?_;refine Kt J ?_;intro g bd hb P q;simp only[aG]at q;have ar:(y4 a8 d3) (g 49) bd:=qye P 17;obtain⟨⟨ag,⟨ah,aj,ai⟩,⟨af,ae,ad⟩⟩,ar,hG⟩:=ar;clear P;simp only[fD];simp only[q,ar];clear q ar;replace J:=J.gave hG;clear hb;simp only[List.append_nil,aX]at J;go_wp2_with (refine zR (b:=a1) (off:=t*3) (vs:=Pv.cells ⟨ag,⟨ah,aj,ai⟩,⟨af,ae,ad⟩⟩) (cs':=zj ax (t*3) (Pv.cells ⟨ag,⟨ah,aj,ai⟩,⟨af,ae,ad⟩⟩)) J rfl rfl cIn rfl Zj.sz rfl bo.out rfl ?_;clear J;intro U J);refine Q1 ?_;go_wp2_with (with_reducible first|refine lld J ?_|((first|refine lbx J ?_|refine lal J ?_|refine lbs J ?_);clear J;intro az aa J)|(refine zc J ?_;clear J;intro aa J))
     (try simp only[Exit.then,Exit.inBlock,↓reduceIte])
     refine⟨⟨?_,?_⟩,(J.get (S:=Zy av.heap.size W) cMm).keep (by omega)⟩
     ·change Jg w0 p I _ [(aq,4,[.bool (q3 (decide (3<n)) i ((t:Int),o) (l,ch)).2]),_,_] (q3 (decide (3<n)) i ((t:Int),o) (l,ch)).1 _
      rw[a4.out];refine⟨ak.set t ⟨ag,⟨ah,aj,ai⟩,⟨af,ae,ad⟩⟩,[(a1,54,zj ax (t*3) (Pv.cells ⟨ag,⟨ah,aj,ai⟩,⟨af,ae,ad⟩⟩))],by simp only[List.length_set];exact aH.out,bl.out _,?_⟩;refine(J.drop (D':=[fun w=>zq w ⟨ag,⟨ah,aj,ai⟩,⟨af,ae,ad⟩⟩ d3,yD ak l]) (List.Sublist.refl _) (fun S an=>?_)).both (fun w ab ac=>bn.out w _ d3 ab ac);simp only[List.mem_cons,List.not_mem_nil,or_false]at an ⊢;rcases an with rfl|rfl<;>simp
     ·change qE p is (q3 (decide (3<n)) i ((t:Int),o) (l,ch)).1
      rw[a4.out];exact aQ.out
 case hdone=>
  rintro D W cr ⟨aC,a2⟩ aS;have ca:W.cell? ⟨aq,0,none⟩=some (.bool (z8 is (q3 (decide (3<n))) Prod.fst p.n (l,false)).2):=by
   obtain⟨bU,b6,_,_,aT⟩:=aC;have b8:=aT.cells (aq,4,[.bool (z8 is (q3 (decide (3<n))) Prod.fst p.n (l,false)).2]) (List.mem_cons_of_mem _ (List.mem_append_right _ List.mem_cons_self));simp[World.cell?,b8]
  generalize bG:z8 is (q3 (decide (3<n))) Prod.fst p.n (l,false)=fin at aC a2 ca;have bi:=za bG;clear bG
  gi_wp2
  refine⟨by simp,.inl ⟨_,_,rfl,run_takeDeferred aS,?_⟩⟩;refine⟨_,results_tmp rfl _ _ _,(by rw[bi.out];rfl),?_,by rw[bi.out];exact a2⟩;rw[bi.out];obtain⟨bU,b6,ab,ac,aT⟩:=aC;refine⟨bU,b6,ab,ac,?_⟩;exact(aT.turnL (r:=D) (by omega) (fun ⟨_,_,_,bA⟩=>by rw[aS]at bA;cases bA)).drop (List.Sublist.cons_cons _ (by rw[List.append_nil];exact List.sublist_append_left _ _)) (fun _ an=>an)
end Go.Proofs.YtplcndmdkabmeaaGreatDoor
