/- The walks over the reference's CopyPicture and CopyRun, whatever they are handed. Conditions: the bounds on bytes that the model asks. | What a reading says of pictures and runs: what they hold, that none of it is frozen, and how many bytes it takes at most. Conditions: what is asked of the reading. -/
import Derived.Test.YtplcndmdkabmeaaGreatDoorRspa
import Derived.Test.YtplcndmdkabmeaaGreatDoorRunG
import Derived.Test.YtplcndmdkabmeaaGreatDoorOpn
set_option linter.unusedSimpArgs false
set_option linter.unusedVariables false
set_option maxRecDepth 100000
set_option maxHeartbeats 8000000
namespace Go.Proofs.YtplcndmdkabmeaaGreatDoor
open Go.Proofs.Tryz
open Go.RowKit
structure zhP (s:Rs):Prop where
 v:s.vars.length*16<=140737488351232
 t:s.things.length*32<=140737488351232
 f:∀ k,(s.thing k).2.length*16<=140737488351232
 l:s.lines.length*16<=140737488351232
theorem zeV (r:Rn) (s:Rs) (w:World) (T:jD w r s) (hf:zhP s):
  Calls prog 21 #[r.v] w fun e U=>zgc w s e U:=by
 obtain⟨⟨g,T,ab⟩,a6,a8,a7,ar,aE,an⟩:=T;obtain⟨bA,bD,aP,aM⟩:=T.things.ex;have bb:=za (fun U (au:Below w.heap.size w U)=>(T.vars.grow au).news (f:=Vl.cells) jc ar);have aS:=za (fun U (au:Below w.heap.size w U)=>(T.lines.grow au).news (f:=yp) zeA an);have aQ:=za (fun k (aN:k<r.things.n) U (au:Below w.heap.size w U)=>((T.fields k aN).2.grow au).news (f:=Vl.cells) (l:=(s.thing k).2) jc (ab k (by omega)).2);have aU:=za (show (JB s.vars).length=r.vars.n*2 by rw[jr jc,ar]);have aT:=za (show (Gf s.lines).length=r.lines.n*1 by rw[jr zeA,an]);have ba:=za ab;have aV:=za aP;have ay:=za aM;have i:=za (And.intro hf (And.intro a6 (And.intro a8 (And.intro a7 (And.intro ar (And.intro aE an))))));have aO:maxLen=9223372036854775807:=rfl;have az:=za aO;have bC:=T.n2;clear T ab a6 a8 a7 ar aE an hf aP aM aO;have J:=Loc.start w;go_enter func21,ntmps21;go_step;go_step;go_step
 ((with_reducible refine lbx J ?_);clear J;intro aB o J)
 go_upto_region 1 with(with_reducible first|refine lld J ?_|((first|refine lbx J ?_|refine lal J ?_|refine lbs J ?_);clear J;intro ae o J)|(refine zc J ?_;clear J;intro o J))
 obtain⟨aC,bz⟩:∃ x,x=ae:=⟨_,rfl⟩;subst bz;go_upto_region 2 with(first|(with_reducible first|refine lld J ?_|((first|refine lbx J ?_|refine lal J ?_|refine lbs J ?_);clear J;intro ae o J)|(refine zc J ?_;clear J;intro o J))|(refine QX J rfl Zi ?_;clear J;intro b3 o J)|(refine JC (p:=b3) rfl rfl Zi V5 (by decide) rfl (bb.out _ J.below) aU.out ziY (by have:=i.out.1.v;have:=i.out.2.2.2.2.1;have:=az.out;omega) (by have:=i.out.1.v;have:=i.out.2.2.2.2.1;omega) ?_;intro aw aj ad ah ag aq hb;replace J:=J.gainTail hb aq;simp only[aX]at J;clear aq hb))
 go_upto_region 3 with(first|(with_reducible first|refine lld J ?_|((first|refine lbx J ?_|refine lal J ?_|refine lbs J ?_);clear J;intro ae o J)|(refine zc J ?_;clear J;intro o J))|(refine QX J rfl Gb ?_;clear J;intro b4 o J)|(refine JC (p:=b4) rfl rfl Gb zik (by decide) rfl (aS.out _ J.below) aT.out zjm (by have:=i.out.1.l;have:=i.out.2.2.2.2.2.2;have:=az.out;omega) (by have:=i.out.1.l;have:=i.out.2.2.2.2.2.2;omega) ?_;intro av ai ac ah af aq hb;replace J:=J.gainTail hb aq;simp only[aX]at J;clear aq hb))
 replace ag:zB 77 2 aw r.vars.n aj (JB s.vars) ad:=ag;replace af:zB 9 1 av r.lines.n ai (Gf s.lines) ac:=af;have aZ:=za (And.intro ag af);clear ag af;go_wp2;go_loopw [3,4] (fun bi bj wr=>∃ (k:Nat) (a9:Option Addr) (a0:Nat) (ax:List Th) (aa I:List zg),k<=r.things.n∧bi=.slice a9 k a0∧bj=.int .i64 k∧zB 79 2 a9 k a0 (Ge ax) aa∧yh ax (s.things.take k) I∧Loc w wr ((aC,46,[.int .i64 0,.slice none 0 0,.slice none 0 0,.int .i64 0,.slice none 0 0,.int .i64 0])::(aB,46,[.int .i64 r.at',.slice aw r.vars.n aj,.slice r.things.p r.things.n r.things.cap,.int .i64 r.taken,.slice av r.lines.n ai,.int .i64 r.ending])::(ad++(ac++(I++aa)))) []) (fun _ c _=>r.things.n - (intOf c).toNat)
 case atStart=>exact⟨0,none,0,[],[],[],Nat.zero_le _,rfl,rfl,zB.nil,.nil,by simpa using J⟩
 case round=>
  obtain⟨k,a9,a0,ax,aa,I,aN,rfl,rfl,a5,ak,J⟩:=hrel;have aA:=za (And.intro a5 ak);clear a5 ak;by_cases ao:k<r.things.n
  ·have aI:=za (aV.out (by omega))
   have aW:=za (zd.cell (P:=prog) y2 (ay.out k ao).1 ((ay.out k ao).2 0 _ rfl));have aY:=za (zd.cell (P:=prog) Jz (ay.out k ao).1 ((ay.out k ao).2 1 _ rfl));have aR:=za (aQ.out k ao);have ab:=ba.out k (by have:=i.out.2.2.2.2.2.1;omega);have aJ:=za ab;have aH:=za (show (g k).fs.n*16<=140737488351232 by have:=i.out.1.f k;have:=ab.2;omega);clear ab;go_upto_region 7 with(with_reducible first|refine lld J ?_|((first|refine lbx J ?_|refine lal J ?_|refine lbs J ?_);clear J;intro ae o J)|(refine zc J ?_;clear J;intro o J))
   refine zb [22,23,24,25,26,27,28,29,30,31,32,33,34,35,36,37,38] ?_
   iterate 4 refine qdv ?_
   refine qdx aI.out ?_;refine qdv ?_;refine qdl aW.out ?_;refine qdn YF YF.stable J ?_ ?_
   ·intro C w hb J _ q;simp only[fD]
    go_wp2;exact⟨rfl,_,rfl,(Below.refl _ _).alloc (Nat.le_refl _) _,_,rfl⟩
   iterate 3 refine qdv ?_
   refine qdx aI.out ?_;refine qdv ?_;refine qdl aY.out ?_;refine qdn (yi wr.heap.size (g k).fs.n (s.thing k).2) yi.stable J ?_ ?_
   ·intro C w hb J y q;simp only[aG]at q;have d7:(YF) (C 29) w:=yr y 7;obtain⟨b8,d7⟩:=d7;clear y;simp only[fD];simp only[q,d7]
    go_wp2_with (refine JC rfl rfl Zi V5 (by decide) rfl (aR.out _ J.below) (by rw[jr jc,aJ.out.2];rfl) ziY (by have:=aH.out;have:=az.out;omega) (by have:=aH.out;omega) ?_;intro bE bB b9 U bt bq bo);exact⟨rfl,_,rfl,bo,_,_,_,rfl,bt,bq.mono hb.size⟩
   refine qdn (y3 wr.heap.size (g k).fs.n (g k).site (s.thing k).2) y3.stable J ?_ ?_
   ·intro C w hb J y q;simp only[aG]at q;have d14:(yi wr.heap.size (g k).fs.n (s.thing k).2) (C 36) w:=yr y 14;obtain⟨b6,bg,bc,d14,bu,br⟩:=d14;clear y;simp only[fD];simp only[q,d14]
    go_wp2_with (fail);exact⟨rfl,_,rfl,Below.refl _ _,_,_,_,rfl,bu,br⟩
   refine qdn (ZU wr.heap.size (g k).fs.n (g k).site (s.thing k).2) ZU.stable J ?_ ?_
   ·intro C w hb J y q;have d15:(y3 wr.heap.size (g k).fs.n (g k).site (s.thing k).2) (C 37) w:=yr y 15;obtain⟨b7,bh,bd,d15,bv,bs⟩:=d15;clear y;simp only[fD];simp only[d15]
    go_wp2_with (fail);exact⟨rfl,_,rfl,(Below.refl _ _).alloc (Nat.le_refl _) _,_,_,_,_,rfl,bv,bs.grow ((Below.refl _ _).alloc (Nat.le_refl _) _),jo _ _⟩
   refine qy J ?_;intro C ah hb al q;simp only[aG]at q;have a4:(YF) (C 29) ah:=qye al 7;obtain⟨b8,a4⟩:=a4;have a1:(yi wr.heap.size (g k).fs.n (s.thing k).2) (C 36) ah:=qye al 14;obtain⟨b6,bg,bc,a1,-,-⟩:=a1;have a2:(y3 wr.heap.size (g k).fs.n (g k).site (s.thing k).2) (C 37) ah:=qye al 15;obtain⟨b7,bh,bd,a2,-,-⟩:=a2;have a3:(ZU wr.heap.size (g k).fs.n (g k).site (s.thing k).2) (C 38) ah:=qye al 16;obtain⟨aF,aD,Rn,bf,a3,bx,aL,bp⟩:=a3;have aK:=J.gainMid (K:=(aC,46,[.int .i64 0,.slice none 0 0,.slice none 0 0,.int .i64 0,.slice none 0 0,.int .i64 0])::(aB,46,[.int .i64 r.at',.slice aw r.vars.n aj,.slice r.things.p r.things.n r.things.cap,.int .i64 r.taken,.slice av r.lines.n ai,.int .i64 r.ending])::(ad++(ac++I))) (R:=aa) (by simp only[List.cons_append,List.append_assoc]) hb aL;clear aL;clear al;simp only[fD];simp only[q,a4,a1,a2,a3];clear q a4 a1 a2 a3;replace J:=J.grow hb;clear hb;replace J:=aK;clear aK;go_wp2_with (first|(with_reducible first|refine lld J ?_|((first|refine lbx J ?_|refine lal J ?_|refine lbs J ?_);clear J;intro ae o J)|(refine zc J ?_;clear J;intro o J))|(refine zF (K:=(aC,46,[.int .i64 0,.slice none 0 0,.slice none 0 0,.int .i64 0,.slice none 0 0,.int .i64 0])::(aB,46,[.int .i64 r.at',.slice aw r.vars.n aj,.slice r.things.p r.things.n r.things.cap,.int .i64 r.taken,.slice av r.lines.n ai,.int .i64 r.ending])::(ad++(ac++(I++Rn)))) (R:=aa) (news:=[.int .i64 (g k).site,.slice aF (g k).fs.n aD]) aA.out.1 J (by simp only[List.cons_append,List.append_assoc]) rfl rfl GX zcF (by decide) rfl (fun _=>⟨⟨bf,0,none⟩,rfl,fun j u b0=>by rw[zG,Nat.zero_add];exact zP bp j b0⟩) rfl (by simp[Value.oneCell']) (by have:=i.out.1.t;have:=i.out.2.2.2.2.2.1;have:=az.out;omega) (by have:=i.out.1.t;have:=i.out.2.2.2.2.2.1;omega) ?_;clear J;intro b5 bk be bF bw J;simp only[List.cons_append,List.append_assoc]at J));go_roundw
   case rel=>
    refine⟨k+1,b5,bk,ax++[⟨(g k).site,⟨aF,(g k).fs.n,aD⟩⟩],be,I++Rn,by omega,rfl,by go_num,by simpa [Ge] using bw,?_,by simpa only[List.append_assoc] using J⟩;have bl:=yh.snoc (t:=⟨(g k).site,⟨aF,(g k).fs.n,aD⟩⟩) aA.out.2 bx;have bm:s.things.take (k+1)=s.things.take k++[((g k).site,(s.thing k).2)]:=by
     have b1 : k<s.things.length:=by have:=i.out.2.2.2.2.2.1;omega
     have bn:s.things[k]? = some (s.thing k):=by simp[Rs.thing,List.getD_eq_getElem?_getD,b1]
     rw[List.take_add_one,aJ.out.1,bn];rfl
    rw[bm];exact bl
   case measure=>simp[intOf];omega
  ·obtain rfl:k=r.things.n:=by omega
   go_wp2_with (with_reducible first|refine lld J ?_|((first|refine lbx J ?_|refine lal J ?_|refine lbs J ?_);clear J;intro ae o J)|(refine zc J ?_;clear J;intro o J))
   (try simp only[Exit.inBlock,Exit.then]);refine rt1 ?_
   obtain⟨a5,ak⟩:=aA.out;obtain⟨ag,af⟩:=aZ.out;obtain⟨_,a6,a8,a7,ar,aE,an⟩:=i.out;rw[List.take_of_length_le (by omega)]at ak;refine⟨⟨r.at',⟨aw,r.vars.n,aj⟩,⟨a9,r.things.n,a0⟩,r.taken,⟨av,r.lines.n,ai⟩,r.ending⟩,ax,ad,aa,ac,I,rfl,⟨ag,a5,af,ak,a6,a8,a7⟩,?_,J.below⟩;refine(J.ownOf ((List.sublist_cons_self _ _).trans (List.sublist_cons_self _ _))).perm (List.Perm.append_left ad ?_);rw[<- List.append_assoc ac I aa];exact List.perm_append_comm
open Go.ChangeShapes Go.WideShapes Go.ChangeAt Go.RowKit Go.Deep Go.Joins
section
variable {H : Type} {enc : TypeId × Value -> H} {w : World} {base : Nat} {spare : Nat -> Bool} {held : Bool} {B : Nat}
theorem zZ.intsAtW {s:Sl}{g:Nat->Int}(hn:s.n<=9223372036854775807) (h:zZ w 1 s.p s.n (fun k=>[.int .i64 (g k)])):zk w s ((List.range s.n).map g):=by
 refine⟨by simp,by simpa using hn,h.congr fun k i=>?_⟩;rw[zV _ _ _ _ i]
theorem zbO {fuel:Nat}{i:List Value}{x:DataW H × List MemPlace}(h:DataW.trod enc prog w base spare held fuel 106 i=some x):∃ s:zm,i=[.bool s.none,.int .i64 s.lo,.int .i64 s.hi]:=by
 obtain⟨parts,U,n,rfl,j,-,-,g⟩:=Jl underlying106 (by kernel_rfl) h;obtain⟨a,b,c,rfl⟩:=KX j;obtain⟨_,P,t,-,t0⟩:=g 0 _ rfl;obtain⟨_,R,C,-,t1⟩:=g 1 _ rfl;obtain⟨_,T,I,-,t2⟩:=g 2 _ rfl;cases t;cases C;cases I;obtain⟨k0,rfl,-⟩:=DataW.trod_bool underlying4 t0;obtain⟨o,rfl,-,-⟩:=DataW.trod_int underlying3 t1;obtain⟨p,rfl,-,-⟩:=DataW.trod_int underlying3 t2;exact⟨⟨k0,o,p⟩,rfl⟩
theorem zap {fuel:Nat}{i:List Value}{x:DataW H × List MemPlace}(h:DataW.trod enc prog w base spare held fuel 108 i=some x) (p:Qp w prog B 108 x):
  ∃ a:Gu × List Int,i=Gu.cells a.1∧(zk w a.1.s a.2∧a.2.length*8<=B):=by
 obtain⟨parts,aj,n,rfl,P,g⟩:=QG underlying108 (by kernel_rfl) h p;obtain⟨a,b,c,d,e,rfl⟩:=zdw P;obtain⟨_,ae,U,-,t0⟩:=g 0 _ rfl;obtain⟨_,af,aa,-,t1⟩:=g 1 _ rfl;obtain⟨_,ag,ab,-,t2⟩:=g 2 _ rfl;obtain⟨_,ah,ac,-,t3⟩:=g 3 _ rfl;obtain⟨_,ai,ad,o,t4⟩:=g 4 _ rfl;cases U;cases aa;cases ab;cases ac;cases ad;obtain⟨k0,rfl,-⟩:=DataW.trod_bool underlying4 t0;obtain⟨s,rfl⟩:=zbO t1;obtain⟨R,rfl,-⟩:=DataW.trod_bool underlying4 t2;obtain⟨T,rfl,-⟩:=DataW.trod_bool underlying4 t3;obtain⟨sl,j,rfl,I,C,t⟩:=zae t4 o;exact⟨(⟨k0,s,R,T,sl⟩,(List.range sl.n).map j),rfl,C.intsAtW I,by simpa using t⟩
instance : Inhabited (Gu × List Int) := ⟨(zI, [])⟩
instance : Inhabited (Sl × List Res) := ⟨(zi, [])⟩
instance : Inhabited Th := ⟨⟨0, ⟨none, 0, 0⟩⟩⟩
abbrev zeW (a:Gu × List Int):Res:=⟨a.1.null,a.1.span,a.1.tr,a.1.fa,a.2⟩
def ziB (B:Nat) (w:World) (s:Sl) (ds:List Res):Prop:=qR w s ds∧ds.length*64<=B∧∀ k,k<ds.length->(ds.getD k zo).l.length*8<=B
theorem XF {fuel:Nat}{o:List Value}{x:DataW H × List MemPlace}(h:DataW.trod enc prog w base spare held fuel 51 o=some x) (T:Qp w prog B 51 x):
  ∃ a:Sl × List Res,o=[.slice a.1.p a.1.n a.1.cap]∧ziB B w a.1 a.2:=by
 obtain⟨p,n,cap,j,P,R,h3,t,C⟩:=QS (fun a:Gu × List Int=>Gu.cells a.1) (fun a=>zk w a.1.s a.2∧a.2.length*8<=B) underlying51 (by rw[show prog.cellsOf 108=7 by kernel_rfl];decide) (fun n o y U i=>zap U i) h T;rw[show prog.cellsOf 108=7 by kernel_rfl]at h3;rw[show prog.bytesOf 108=64 by kernel_rfl]at C;have i:∀ k,k<n->((List.range n).map fun k=>zeW (j k)).getD k zo=zeW (j k):=fun k g=>zV _ _ _ _ g
 refine⟨(⟨p,n,cap⟩,(List.range n).map fun k=>zeW (j k)),P,⟨by simp,R,fun k=>(j k).1.s,h3.congr fun k g=>?_,fun k g=>?_⟩,by simpa using C,fun k g=>?_⟩
 ·rw[i k g]
 ·rw[i k g];exact(t k g).1
 ·have I:k<n:=by simpa using g
  dsimp only;rw[i k I];exact(t k I).2
def ziC (B:Nat) (w:World) (s:Sl) (g:List (List Res)):Prop:=j3 w s g∧g.length*24<=B∧∀ k,k<g.length->(g.getD k []).length*64<=B∧∀ i,i<(g.getD k []).length->((g.getD k []).getD i zo).l.length*8<=B
theorem zbP {fuel:Nat}{o:List Value}{x:DataW H × List MemPlace}(h:DataW.trod enc prog w base spare held fuel 52 o=some x) (U:Qp w prog B 52 x):
  ∃ (s:Sl) (P:List (List Res)),o=[.slice s.p s.n s.cap]∧ziC B w s P:=by
 obtain⟨p,n,cap,i,R,T,h3,t,C⟩:=QS (fun a:Sl × List Res=>[Value.slice a.1.p a.1.n a.1.cap]) (fun a=>ziB B w a.1 a.2) underlying52 (by rw[show prog.cellsOf 51=1 by kernel_rfl];decide) (fun n o y aa j=>XF aa j) h U;rw[show prog.cellsOf 51=1 by kernel_rfl]at h3;rw[show prog.bytesOf 51=24 by kernel_rfl]at C;have j:∀ k,k<n->((List.range n).map fun k=>(i k).2).getD k []=(i k).2:=fun k g=>zV _ _ _ _ g
 refine⟨⟨p,n,cap⟩,(List.range n).map fun k=>(i k).2,R,⟨by simp,T,fun k=>(i k).1,h3,fun k g=>?_⟩,by simpa using C,fun k g=>?_⟩
 ·rw[j k g];exact(t k g).1
 ·have I:k<n:=by simpa using g
  rw[j k I];exact(t k I).2
theorem XG {fuel:Nat}{p:List Value}{x:DataW H × List MemPlace}(h:DataW.trod enc prog w base spare held fuel 54 p=some x) (ab:Qp w prog 140737488351232 54 x):
  ∃ (x:Pv) (d:Pd),p=x.cells∧zq w x d∧zeT d:=by
 obtain⟨parts,ao,n,rfl,ad,g⟩:=QG underlying54 (by kernel_rfl) h ab;obtain⟨a,b,c,rfl⟩:=KX ad;obtain⟨_,ak,ah,-,t0⟩:=g 0 _ rfl;obtain⟨_,al,ai,U,t1⟩:=g 1 _ rfl;obtain⟨_,an,aj,aa,t2⟩:=g 2 _ rfl;cases ah;cases ai;cases aj;obtain⟨k0,rfl,-⟩:=DataW.trod_bool underlying4 t0;obtain⟨⟨I,d1⟩,rfl,t,b1,T⟩:=XF t1 U;obtain⟨P,d2,rfl,C,R,o⟩:=zbP t2 aa;have af:=t.n;have ag:=C.n;dsimp only at af ag b1;exact⟨⟨k0,I,P⟩,⟨k0,d1,d2⟩,rfl,⟨rfl,t,C,by show I.n+P.n<=_;omega⟩,⟨b1,R,fun k i=>(o k i).1,T,fun k j i ac=>(o k i).2 j ac⟩⟩
theorem Ki {fuel:Nat}{g:List Value}{x:DataW H × List MemPlace}(h:DataW.trod enc prog w base spare held fuel 42 g=some x) (C:Qp w prog B 42 x):
  ∃ (s:Sl) (i:Nat->Vl),g=[.slice s.p s.n s.cap]∧s.n<=9223372036854775807∧zZ w 2 s.p s.n (fun k=>(i k).cells)∧s.n*16<=B:=by
 obtain⟨P,n,cap,i,p,t,j,-,o⟩:=QS Vl.cells (fun _=>True) underlying42 (by rw[show prog.cellsOf 77=2 by kernel_rfl];decide) (fun n g y I _=>zbF I) h C;rw[show prog.cellsOf 77=2 by kernel_rfl]at j;rw[show prog.bytesOf 77=16 by kernel_rfl]at o;exact⟨⟨P,n,cap⟩,i,p,t,j,o⟩
def ThW (B:Nat) (w:World) (t:Th):Prop:=(t.fs.n<=9223372036854775807∧∃ g:Nat->Vl,zZ w 2 t.fs.p t.fs.n (fun i=>(g i).cells))∧t.fs.n*16<=B
theorem zaq {fuel:Nat}{g:List Value}{x:DataW H × List MemPlace}(h:DataW.trod enc prog w base spare held fuel 79 g=some x) (P:Qp w prog B 79 x):∃ j:Th,g=Th.cells j∧ThW B w j:=by
 obtain⟨parts,ac,n,rfl,R,i⟩:=QG underlying79 (by kernel_rfl) h P;obtain⟨a,b,rfl⟩:=Xw R;obtain⟨_,aa,T,-,t0⟩:=i 0 _ rfl;obtain⟨_,ab,U,p,t1⟩:=i 1 _ rfl;cases T;cases U;obtain⟨k0,rfl,-,-⟩:=DataW.trod_int underlying3 t0;obtain⟨s,o,rfl,t,C,I⟩:=Ki t1 p;exact⟨⟨k0,s⟩,rfl,⟨t,o,C⟩,I⟩
theorem zdM {fuel:Nat}{j:List Value}{x:DataW H × List MemPlace}(h:DataW.trod enc prog w base spare held fuel 46 j=some x) (ag:Qp w prog 140737488351232 46 x):
  ∃ (r:Rn) (s:Rs),j=[.int .i64 r.at',.slice r.vars.p r.vars.n r.vars.cap,.slice r.things.p r.things.n r.things.cap,.int .i64 r.taken,.slice r.lines.p r.lines.n r.lines.cap,.int .i64 r.ending]∧jD w r s∧s.taken<=9223372036854775807∧zhP s:=by
 obtain⟨parts,a9,n,rfl,aj,i⟩:=QG underlying46 (by kernel_rfl) h ag;obtain⟨a,b,c,a2,e,f,rfl⟩:=Xx aj;obtain⟨_,a3,aw,-,t0⟩:=i 0 _ rfl;obtain⟨_,a4,ax,ad,t1⟩:=i 1 _ rfl;obtain⟨_,a5,ay,ae,t2⟩:=i 2 _ rfl;obtain⟨_,a6,az,-,t3⟩:=i 3 _ rfl;obtain⟨_,a7,t,af,t4⟩:=i 4 _ rfl;obtain⟨_,a8,a0,-,t5⟩:=i 5 _ rfl;cases aw;cases ax;cases ay;cases az;cases t;cases a0;obtain⟨k0,rfl,-,-⟩:=DataW.trod_int underlying3 t0;obtain⟨a1,f1,rfl,aq,an,ab⟩:=Ki t1 ad;obtain⟨p,m,cap,f2,rfl,ar,T,o,C⟩:=QS Th.cells (ThW 140737488351232 w) underlying43 (by rw[show prog.cellsOf 79=2 by kernel_rfl];decide) (fun n j y hy ai=>zaq hy ai) t2 ae;rw[show prog.cellsOf 79=2 by kernel_rfl]at T;rw[show prog.bytesOf 79=32 by kernel_rfl]at C;obtain⟨R,rfl,-,aa⟩:=DataW.trod_int underlying3 t3;obtain⟨t,ao,ac,f4,rfl,au,U,-,I⟩:=QS (fun s:ByteArray=>[Value.string s]) (fun s=>s.size<=maxLen) underlying44 (by rw[show prog.cellsOf 9=1 by kernel_rfl];decide) (fun n j y hy _=>zad hy) t4 af;rw[show prog.cellsOf 9=1 by kernel_rfl]at U;rw[show prog.bytesOf 9=16 by kernel_rfl]at I;obtain⟨al,rfl,-,-⟩:=DataW.trod_int underlying3 t5;obtain⟨P,ah⟩:=KZ (fun k g=>(o k g).1.2);have ak:Ju w ⟨k0,a1,⟨p,m,cap⟩,R,⟨t,ao,ac⟩,al⟩ f1 f2 P f4:=⟨an,T,fun k g=>⟨(o k g).1.1,ah k g⟩,U,aq,ar,au⟩;refine⟨_,_,rfl,ak.is,?_,⟨by simpa [zbm] using ab,by simpa [zbm] using C,fun k=>?_,by simpa [zbm] using I⟩⟩
 ·show R<=_
  simp only[Lit.wf,Bool.and_eq_true,decide_eq_true_eq]at aa;exact aa.2
 ·show (((List.range m).map (fun k=>((f2 k).site,(List.range (f2 k).fs.n).map (P k)))).getD k dT).2.length*16<=_
  rcases Nat.lt_or_ge k m with g|g
  ·rw[zV _ _ _ _ g]
   simpa using (o k g).2
  ·rw[List.getD_eq_getElem?_getD,List.getElem?_eq_none (by simpa using g)]
   show (0:Nat)*16<=_
   omega
end
end Go.Proofs.YtplcndmdkabmeaaGreatDoor
