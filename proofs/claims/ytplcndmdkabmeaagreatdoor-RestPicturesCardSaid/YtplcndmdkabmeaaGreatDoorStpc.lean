/- The walk over the law's stepBegun. Conditions: none. -/
import Derived.Test.YtplcndmdkabmeaaGreatDoorStpb
import Derived.Test.YtplcndmdkabmeaaGreatDoorPica
import Derived.Test.YtplcndmdkabmeaaGreatDoorPicc
import Derived.Test.YtplcndmdkabmeaaGreatDoorPicd
import Derived.Test.YtplcndmdkabmeaaGreatDoorSml
set_option linter.unusedSimpArgs false
set_option linter.unusedVariables false
set_option maxRecDepth 100000
set_option maxHeartbeats 4000000
namespace Go.Proofs.YtplcndmdkabmeaaGreatDoor
open Go.Proofs.Tryz
open Go.RowKit
theorem Gl {w0:World}{x:Pv}{d:Pd}(j:zq w0 x d) {a:Nat}(ha:a<d.vars.length):∃ (g i:Nat) (s:Sl),x.vars.p=some ⟨g,i,none⟩∧a<x.vars.n∧x.vars.n<=9223372036854775807∧zd prog 108 w0 g (i+a*7) ((d.var a).gu s).v∧zk w0 s (d.var a).l:=by
 obtain⟨R,C,t⟩:=j.vars.ex;have T:=j.vars.n;obtain⟨g,i,I,o⟩:=C.ex;exact⟨g,i,R a,I (by omega),by omega,j.vars.m,zd.agg (P:=prog) zO (o a (by omega)).1 (o a (by omega)).2 rfl,t a (by omega)⟩
theorem zeL (w0:World) (j:Nat) (i:Ins) (at' : Nat) (x:Pv) (d:Pd) (A:List zg) (D:List zl) (w:World) (p:Pg) (h:Stp w0 j i at' x [] false false A D w) (ok:qV w0 x d) (af:yU p i) (hf:jQ i=false) (ab:qq p d) (ha:at' < d.fields.length) (aH:at'<=1000000) (hk:i.kind=15):qf w0 j i at' x d A D w:=by
 unfold qf;rw[show zJ i at' d=⟨([]++if Jf ((d.var i.a.toNat).gu ⟨none,(d.var i.a.toNat).l.length,0⟩)=true then [(i.goto,d.setVar i.a.toNat (jV (d.var i.a.toNat)))] else [])++(if noG ((d.var i.a.toNat).gu zi)=true then [((at' : Int)+1,d.setVar i.a.toNat (yc (d.var i.a.toNat)))] else []),false,false⟩ by unfold zJ;rw[if_neg (by omega),if_neg (by omega),if_neg (by omega),if_neg (by omega),if_pos hk];rfl];obtain⟨t,o⟩:=idx (af.a (by rw[hk];decide)) ab.r.vars;obtain⟨a8,aP,P,ae,ay,az,ag,ac⟩:=Gl ok.x o;have I:=fun a6=>ZN ((d.var i.a.toNat).gu P) a6
 have ad:noG ((d.var i.a.toNat).gu P)=noG ((d.var i.a.toNat).gu zi):=rfl;simp only[zc5 ac.n,ad]at I;generalize Jf ((d.var i.a.toNat).gu ⟨none,(d.var i.a.toNat).l.length,0⟩)=y at *;generalize noG ((d.var i.a.toNat).gu zi)=n at *;have ai:=za (fun w1 C=>Vs w0 j i at' x d [] false false A D w1 i.a.toNat y i.goto 160 J8 jV zc4 XM zat C ok t o (by simp));have aj:=za (fun w1 C=>Vs w0 j i at' x d ([]++if y=true then [(i.goto,d.setVar i.a.toNat (jV (d.var i.a.toNat)))] else []) false false A D w1 i.a.toNat n ((at' : Int)+1) 161 Kj yc zgz zau zbT C ok t o (by cases y<;>simp));have R:=za I;have T:=za ag;obtain⟨⟨sp,a3,a1⟩,ar,ak,aa,J⟩:=h;have ah:=za aa;clear aa ok af hf ab ha I ag ac o ad;generalize d.setVar i.a.toNat (jV (d.var i.a.toNat))=ao at *;generalize d.setVar i.a.toNat (yc (d.var i.a.toNat))=an at *;generalize ([]++if y=true then [(i.goto,ao)] else [])=aq at *;generalize (aq++if n=true then [((at' : Int)+1,an)] else [])=a9 at *;generalize i.a.toNat=a at *;generalize d.var a=g at *;obtain⟨aM,aO,aJ,aK,aN,aL⟩:=i;obtain⟨ba,⟨bb,bc,aV⟩,⟨aZ,aY,aW⟩⟩:=x;dsimp only at hk t ae ay az;subst hk t ae;obtain⟨aE,⟨aF,aD,aB⟩,gt,aA,aC⟩:=g;obtain⟨aQ,aR,aS⟩:=P;dsimp only[Res.gu]at T R;go_enter func107,ntmps107;go_upto_region 16 with(with_reducible first|refine lld J ?_|((first|refine lbx J ?_|refine lal J ?_|refine lbs J ?_);clear J;intro U w1 J)|(refine zc J ?_;clear J;intro w1 J))
 obtain⟨aU,a0⟩:∃ x,x=w:=⟨_,rfl⟩;subst a0;refine zb [77,78,79,80,81,82,83,84,85,86,87,88,89,76,90,91,2,3] ?_
 iterate 11 refine qdv ?_
 refine qdl T.out ?_;refine qdk J (fun _ aI J=>R.out _) ?_
 iterate 5 refine qdv ?_
 refine dnd J ?_;clear J;intro aT J;simp only[zr,sTa,sTb];go_upto_region 18 with(first|(with_reducible first|refine lld J ?_|((first|refine lbx J ?_|refine lal J ?_|refine lbs J ?_);clear J;intro U w1 J)|(refine zc J ?_;clear J;intro w1 J))|(go_at_call 159;refine(ai.out _ ⟨⟨sp,a3,a1⟩,ar,ak,ah.out,J⟩).mono ?_;clear J;rintro e a7 ⟨rfl,⟨⟨a5,a4,a2⟩,au,al,ax,J⟩⟩;dsimp only))
 go_wp2_with (first|(with_reducible first|refine lld J ?_|((first|refine lbx J ?_|refine lal J ?_|refine lbs J ?_);clear J;intro U w1 J)|(refine zc J ?_;clear J;intro w1 J))|(go_at_call 159;refine(aj.out _ ⟨⟨a5,a4,a2⟩,au,al,ax,J⟩).mono ?_;rintro e a7 ⟨rfl,aw⟩;dsimp only))
 (try simp only[Exit.inBlock,Exit.then]);(first|refine qv rfl rfl ?_|refine qw rfl rfl ?_)
 exact⟨rfl,aw⟩
theorem zeM (w0:World) (j:Nat) (i:Ins) (at' : Nat) (x:Pv) (d:Pd) (A:List zg) (D:List zl) (w:World) (p:Pg) (h:Stp w0 j i at' x [] false false A D w) (ok:qV w0 x d) (ae:yU p i) (hf:jQ i=false) (aa:qq p d) (ha:at' < d.fields.length) (aB:at'<=1000000) (hk:i.kind=17):qf w0 j i at' x d A D w:=by
 unfold qf;rw[show zJ i at' d=⟨([]++if Jf ((d.var i.a.toNat).gu ⟨none,(d.var i.a.toNat).l.length,0⟩)=true then [((at' : Int)+1,d.setVar i.a.toNat (jV (d.var i.a.toNat)))] else []),false,noG ((d.var i.a.toNat).gu zi)⟩ by unfold zJ;rw[if_neg (by omega),if_neg (by omega),if_neg (by omega),if_neg (by omega),if_neg (by omega),if_pos hk];rfl];obtain⟨C,t⟩:=idx (ae.a (by rw[hk];decide)) aa.r.vars;obtain⟨a3,aK,I,ad,au,av,af,ab⟩:=Gl ok.x t;have o:=fun a2=>ZN ((d.var i.a.toNat).gu I) a2
 have ac:noG ((d.var i.a.toNat).gu I)=noG ((d.var i.a.toNat).gu zi):=rfl;simp only[zc5 ab.n,ac]at o;generalize Jf ((d.var i.a.toNat).gu ⟨none,(d.var i.a.toNat).l.length,0⟩)=y at *;generalize noG ((d.var i.a.toNat).gu zi)=n at *;have ah:=za (fun w1 aq=>Vs w0 j i at' x d [] false false A D w1 i.a.toNat y ((at' : Int)+1) 160 J8 jV zc4 XM zat aq ok C t (by simp));have P:=za o;have R:=za af;obtain⟨⟨sp,az,ax⟩,al,ai,U,J⟩:=h;have ag:=za U;clear U ok ae hf aa ha o af ab t ac;generalize d.setVar i.a.toNat (jV (d.var i.a.toNat))=ak at *;generalize ([]++if y=true then [((at' : Int)+1,ak)] else [])=a4 at *;generalize i.a.toNat=a at *;generalize d.var a=g at *;obtain⟨aH,aJ,aD,aE,aI,aF⟩:=i;obtain⟨aV,⟨aW,aY,aR⟩,⟨aU,aT,aS⟩⟩:=x;dsimp only at hk C ad au av;subst hk C ad;obtain⟨a9,⟨aA,a8,a6⟩,gt,a5,a7⟩:=g;obtain⟨aL,aM,aN⟩:=I;dsimp only[Res.gu]at R P;go_enter func107,ntmps107;go_upto_region 20 with(with_reducible first|refine lld J ?_|((first|refine lbx J ?_|refine lal J ?_|refine lbs J ?_);clear J;intro T w1 J)|(refine zc J ?_;clear J;intro w1 J))
 obtain⟨aQ,aw⟩:∃ x,x=w:=⟨_,rfl⟩;subst aw;refine zb [111,112,113,114,115,116,117,118,119,120,121,122,123,110,124,125,4,5] ?_
 iterate 11 refine qdv ?_
 refine qdl R.out ?_;refine qdk J (fun _ aC J=>P.out _) ?_
 iterate 5 refine qdv ?_
 refine dnd J ?_;clear J;intro aO J;simp only[zr,sTa,sTb];go_upto_region 22 with(first|(with_reducible first|refine lld J ?_|((first|refine lbx J ?_|refine lal J ?_|refine lbs J ?_);clear J;intro T w1 J)|(refine zc J ?_;clear J;intro w1 J))|(go_at_call 159;refine(ah.out _ ⟨⟨sp,az,ax⟩,al,ai,ag.out,J⟩).mono ?_;clear J;rintro e aP ⟨rfl,⟨⟨a1,a0,ay⟩,an,aj,ar,J⟩⟩;dsimp only))
 go_wp2_with (with_reducible first|refine lld J ?_|((first|refine lbx J ?_|refine lal J ?_|refine lbs J ?_);clear J;intro T w1 J)|(refine zc J ?_;clear J;intro w1 J))
 (try simp only[Exit.inBlock,Exit.then]);(first|refine qv rfl rfl ?_|refine qw rfl rfl ?_)
 exact⟨rfl,⟨a1,a0,ay⟩,an,aj,ar,J⟩
def JJ (B:Nat) (a:Bool) (s:zm) (b c:Bool) (l:List Int) (wr:Bool):Value->World->Prop:=fun v w=>∃ (r:Sl) (g:List zg),v=.tuple #[Gu.v ⟨a,s,b,c,r⟩,.bool wr]∧zB 3 1 r.p r.n r.cap (l.map (Value.int .i64)) g∧Own B w g
theorem JJ.stable {B:Nat}{a:Bool}{s:zm}{b c:Bool}{l:List Int}{wr:Bool}:∀ v w g,Below w.heap.size w g->JJ B a s b c l wr v w->JJ B a s b c l wr v g:=fun _ _ _ t ⟨r,i,j,o,p⟩=>⟨r,i,j,o,p.grow t⟩
theorem U1 (k:Int) (d e:Res) {s t:Sl}(l m:List Int) (g:s.n=d.l.length) (ht:t.n=e.l.length):qL k (d.gu s) (e.gu t) l m=qL k (d.gu ⟨none,d.l.length,0⟩) (e.gu ⟨none,e.l.length,0⟩) l m:=by
 obtain⟨i,j,o⟩:=s;obtain⟨t1,t2,t3⟩:=t;dsimp only at g ht;subst g ht;rfl
theorem jN.gu {d:Res}(h:jN d) {s:Sl}(g:s.n=d.l.length):yH (d.gu s) d.l:=⟨h.span,g,h.ins,h.asc,h.le⟩
theorem zbC (w0:World) (au:Nat) (i:Ins) (at' : Nat) (x:Pv) (d:Pd) (A:List zg) (D:List zl) (w:World) (p:Pg) (h:Stp w0 au i at' x [] false false A D w) (ok:qV w0 x d) (ae:yU p i) (hf:jQ i=false) (ad:qq p d) (ha:at' < d.fields.length) (bh:at'<=1000000) (hk:zU i.kind 4 10=true):qf w0 au i at' x d A D w:=by
 have aI:4<=i.kind∧i.kind<=10:=by simp only[zU,Bool.and_eq_true,decide_eq_true_eq]at hk;exact hk
 unfold qf;rw[show zJ i at' d=⟨[]++jK d at' i.to.toNat (qL i.kind ((d.var i.a.toNat).gu ⟨none,(d.var i.a.toNat).l.length,0⟩) ((d.var i.b.toNat).gu ⟨none,(d.var i.b.toNat).l.length,0⟩) (d.var i.a.toNat).l (d.var i.b.toNat).l).1,
  (qL i.kind ((d.var i.a.toNat).gu ⟨none,(d.var i.a.toNat).l.length,0⟩) ((d.var i.b.toNat).gu ⟨none,(d.var i.b.toNat).l.length,0⟩) (d.var i.a.toNat).l (d.var i.b.toNat).l).2,false⟩ by
  unfold zJ;rw[if_neg (by omega),if_neg (by omega),if_neg (by omega),if_neg (by omega),if_neg (by omega),if_neg (by omega),if_neg (by omega),if_neg (by omega),if_neg (by omega)];rfl]
 have aL:nTo i.kind=true:=by simp[nTo,zU];omega
 obtain⟨aH,aJ⟩:=idx (ae.to aL) ad.r.vars;obtain⟨aE,aw⟩:=idx (ae.a (by simp[nA,zU];omega)) ad.r.vars;have bj:i.b=(i.b.toNat:Int)∧i.b.toNat<d.vars.length:=by
  cases aK:nB i.kind with
  | true=>exact idx (ae.b aK) ad.r.vars
  | false=>have:=zhS hf aK;omega
 obtain⟨aF,ax⟩:=bj;obtain⟨bb,bs,aR,ay,bi,bn,a1,an⟩:=Gl ok.x aw;obtain⟨bc,bt,aS,az,bl,-,a2,ao⟩:=Gl ok.x ax;rw[ay]at az;obtain⟨rfl,rfl⟩:bb=bc∧bs=bt:=by simpa using az
 have aq:=fun aT (T:Below w0.heap.size w0 aT)=>zfl i.kind ((d.var i.a.toNat).gu aR) ((d.var i.b.toNat).gu aS) (d.var i.a.toNat).l (d.var i.b.toNat).l aT hk ((ad.r.vg _ aw).gu an.n) ((ad.r.vg _ ax).gu ao.n) (an.grow T) (ao.grow T)
 simp only[U1 i.kind (d.var i.a.toNat) (d.var i.b.toNat) (d.var i.a.toNat).l (d.var i.b.toNat).l an.n ao.n]at aq;generalize qL i.kind ((d.var i.a.toNat).gu ⟨none,(d.var i.a.toNat).l.length,0⟩) ((d.var i.b.toNat).gu ⟨none,(d.var i.b.toNat).l.length,0⟩) (d.var i.a.toNat).l (d.var i.b.toNat).l=br at *;obtain⟨⟨C,⟨I,t,o⟩,P,j,el⟩,wr⟩:=br;dsimp only[Res.gu]at aq a1 a2 ⊢;have a7:=za (fun ac ba g bf=>JS w0 au i at' x d [] wr false ((ba,108,Gu.cells g)::A) ((fun w=>ql w g ⟨C,⟨I,t,o⟩,P,j,el⟩)::D) ac i.to.toNat g ⟨C,⟨I,t,o⟩,P,j,el⟩ bf ok aH aJ List.mem_cons_self (by simp) bh);have a6:=za aq;have a4:=za a1;have a5:=za a2;obtain⟨⟨sp,b8,b7⟩,bd,aY,ab,J⟩:=h;have aU:=za ab;clear ab ok ae hf ad ha aq a1 a2 an ao aw ax aL hk aH aJ az;generalize ([]++jK d at' i.to.toNat ⟨C,⟨I,t,o⟩,P,j,el⟩)=bB at *;generalize i.a.toNat=a at *;generalize i.b.toNat=b at *;generalize d.var a=g at *;generalize d.var b=be at *;obtain⟨ik,bT,bP,bQ,bS,bR⟩:=i;obtain⟨cc,⟨cd,cf,bY⟩,⟨cb,ca,bZ⟩⟩:=x;dsimp only at aI aE aF ay bi bn bl;subst aE aF ay;obtain⟨bp,bq⟩:=aI;have bu:(ik==1)=false:=by simp;omega
 have bz:(ik==14)=false:=by simp;omega
 have b0:(ik==2)=false:=by simp;omega
 have b1:(ik==3)=false:=by simp;omega
 have b2:(ik==11)=false:=by simp;omega
 have b3:(ik==12)=false:=by simp;omega
 have b4:(ik==13)=false:=by simp;omega
 have b5:(ik==15)=false:=by simp;omega
 have b6:(ik==17)=false:=by simp;omega
 have bv:(ik==16)=false:=by simp;omega
 have bw:(ik==18)=false:=by simp;omega
 have bx:(ik==19)=false:=by simp;omega
 obtain⟨bK,⟨bM,bI,bE⟩,gt,bC,bG⟩:=g;obtain⟨bL,⟨bN,bJ,bF⟩,bO,bD,bH⟩:=be;obtain⟨bU,bV,bW⟩:=aR;obtain⟨t1,t2,t3⟩:=aS;dsimp only at a6 a4 a5;go_enter func107,ntmps107;go_upto_region 1 with(with_reducible first|refine lld J ?_|((first|refine lbx J ?_|refine lal J ?_|refine lbs J ?_);clear J;intro a9 ac J)|(refine zc J ?_;clear J;intro ac J))
 clear bu bz b0 b1 b2 b3 b4 b5 b6 bv bw bx bp bq;obtain⟨aa,bo⟩:∃ x,x=w:=⟨_,rfl⟩;subst bo;refine zb [14,15,16,17,18,19,20,21,22,23,24,25,26,27,28,29,30,31,32,33,34,35,36,37,38,39,40,41,42,43,13,44,45,6] ?_
 iterate 16 refine qdv ?_
 refine qdl a4.out ?_
 iterate 11 refine qdv ?_
 refine qdl a5.out ?_;refine qdn (JJ aa.heap.size C ⟨I,t,o⟩ P j el wr) JJ.stable J ?_ ?_
 ·intro g w T J _ q;simp only[aG]at q;simp only[fD];simp only[q]
  go_wp2_with (go_at_call 165;refine(a6.out _ J.below).mono ?_;rintro e b9 ⟨r,rfl,⟨R,ae,bm⟩,bk⟩;dsimp only);exact⟨rfl,_,rfl,bk,r,R,rfl,ae,bm.mono T.size⟩
 refine qdn (JJ aa.heap.size C ⟨I,t,o⟩ P j el wr) JJ.stable J ?_ ?_
 ·intro g w T J u q;have d29:(JJ aa.heap.size C ⟨I,t,o⟩ P j el wr) (g 43) w:=yr u 29;obtain⟨aN,a8,d29,a0,av⟩:=d29;clear u;simp only[fD];simp only[d29]
  go_wp2_with (fail);exact⟨rfl,_,rfl,Below.refl _ _,aN,a8,rfl,a0,av⟩
 refine qdn (GuR aa.heap.size C ⟨I,t,o⟩ P j el) GuR.stable J ?_ ?_
 ·intro g w T J u q;have d30:(JJ aa.heap.size C ⟨I,t,o⟩ P j el wr) (g 13) w:=yr u 30;obtain⟨ar,ai,d30,ah,af⟩:=d30;clear u;simp only[fD];simp only[d30]
  go_wp2_with (fail);exact⟨rfl,_,rfl,Below.refl _ _,ar,ai,rfl,ah,af⟩
 refine' j2 J ?_ ?_;rotate_left
 ·intro g w T J u q;have d30:(JJ aa.heap.size C ⟨I,t,o⟩ P j el wr) (g 13) w:=yr u 30;obtain⟨ar,ai,d30,ah,af⟩:=d30;clear u;simp only[fD];simp only[d30]
  go_wp2;exact cY
 refine qdp ?_;refine de1 32 J ?_ ?_
 ·refine yj rfl rfl ?_;intro g w T u;have d30:(JJ aa.heap.size C ⟨I,t,o⟩ P j el wr) (g 13) w:=yr u 30;obtain⟨ar,ai,d30,ah,af⟩:=d30;clear u;simp only[fD];simp only[d30]
  exact⟨_,.inl ⟨rfl,fun w=>(by go_simp)⟩,rfl⟩
 intro g a3 T ab q;simp only[aG]at q;have aj:(JJ aa.heap.size C ⟨I,t,o⟩ P j el wr) (g 43) a3:=qye ab 29;obtain⟨aN,a8,aj,a0,av⟩:=aj;have ak:(JJ aa.heap.size C ⟨I,t,o⟩ P j el wr) (g 13) a3:=qye ab 30;obtain⟨ar,ai,ak,ah,af⟩:=ak;have al:(GuR aa.heap.size C ⟨I,t,o⟩ P j el) (g 44) a3:=qye ab 31;obtain⟨⟨aO,aP,aQ⟩,bA,al,aD,aC⟩:=al;obtain⟨aZ,aM,aB,aA⟩:=qye ab 33;clear ab;simp only[fD];simp only[q,aj,ak,al,aB];clear q aj ak al aB;replace J:=J.gainPtr T aM aA aD aC (by decide);clear aM aA aD aC a0 av ah af;clear T;go_upto_region 3 with(with_reducible first|refine lld J ?_|((first|refine lbx J ?_|refine lal J ?_|refine lbs J ?_);clear J;intro a9 ac J)|(refine zc J ?_;clear J;intro ac J))
 have aV:=za (a7.out _ aZ ⟨C,⟨I,t,o⟩,P,j,⟨aO,aP,aQ⟩⟩ ⟨⟨sp,b8,b7⟩,bd,aY,aU.out,((J.turn (U:=fun w=>ql w ⟨C,⟨I,t,o⟩,P,j,⟨aO,aP,aQ⟩⟩ ⟨C,⟨I,t,o⟩,P,j,el⟩) (fun w h=>ql.mk' (d:=⟨C,⟨I,t,o⟩,P,j,el⟩) h)).perm (List.Perm.swap _ _ _)).drop (List.Sublist.refl _) (fun S ag=>by
  rcases List.mem_cons.1 ag with rfl|ag
  ·exact List.mem_cons_of_mem _ List.mem_cons_self
  ·rcases List.mem_cons.1 ag with rfl|ag
   ·exact List.mem_cons_self
   ·exact List.mem_cons_of_mem _ (List.mem_cons_of_mem _ ag))⟩)
 clear a7;go_wp2_with (first|(with_reducible first|refine lld J ?_|((first|refine lbx J ?_|refine lal J ?_|refine lbs J ?_);clear J;intro a9 ac J)|(refine zc J ?_;clear J;intro ac J))|(go_at_call 153;refine aV.out.mono ?_;rintro e b9 ⟨rfl,bg⟩;dsimp only))
 (try simp only[Exit.inBlock,Exit.then]);(first|refine qv rfl rfl ?_|refine qw rfl rfl ?_)
 exact⟨rfl,bg.dropF.drop1⟩
theorem qq.of {p:Pg}{is:Nat->Ins}{d:Pd}(h:q2 p is d) (t:zf p is=0):qq p d:=by
 refine⟨h.r t,fun k o C j=>?_⟩;obtain⟨m,g,i,-⟩:=VU ((h.vg _ (qX o)).sites _ (qX (d:=0) j));exact⟨m,g,by rw[h.fields];exact i⟩
theorem qV.of {p:Pg}{is:Nat->Ins}{d:Pd}{w:World}{x:Pv}(h:q2 p is d) (g:zf p is=0) (j:zq w x d):qV w x d:=by
 have i:=(zp g).1;refine⟨j,h.none,ju.of (h.r g) i,yn (h.r g) h.none,?_⟩;have o:=h.vars;have t:=h.fields;have C:=i.v2;have I:=i.n1;omega
theorem zcV {k:Int}(h:zU k 1 19=true):k=1∨k=14∨k=2∨k=3∨k=11∨k=12∨k=13∨k=15∨k=17∨k=16∨k=18∨k=19∨zU k 4 10=true:=by
 simp only[zU,Bool.and_eq_true,decide_eq_true_eq]at h ⊢;omega
theorem zdv (w0:World) (j:Nat) (i:Ins) (at' : Nat) (x:Pv) (d:Pd) (A:List zg) (D:List zl) (w:World) (p:Pg) (h:Stp w0 j i at' x [] false false A D w) (ok:qV w0 x d) (hi:zQ p i=0) (C:qq p d) (ha:at' < d.fields.length) (t:at'<=1000000):qf w0 j i at' x d A D w:=by
 have o:=qG hi;have I:=jv hi;rcases zcV o.kd with g|g|g|g|g|g|g|g|g|g|g|g|g
 ·exact zgA w0 j i at' x d A D w p h ok o I C ha t g
 ·exact ze0 w0 j i at' x d A D w p h ok o I C ha t g
 ·exact zgB w0 j i at' x d A D w p h ok o I C ha t g
 ·exact zgC w0 j i at' x d A D w p h ok o I C ha t g
 ·exact ze1 w0 j i at' x d A D w p h ok o I C ha t g
 ·exact ze2 w0 j i at' x d A D w p h ok o I C ha t g
 ·exact ze3 w0 j i at' x d A D w p h ok o I C ha t g
 ·exact zeL w0 j i at' x d A D w p h ok o I C ha t g
 ·exact zeM w0 j i at' x d A D w p h ok o I C ha t g
 ·exact ze4 w0 j i at' x d A D w p h ok o I C ha t g
 ·exact ze5 w0 j i at' x d A D w p h ok o I C ha t g
 ·exact ze6 w0 j i at' x d A D w p h ok o I C ha t g
 ·exact zbC w0 j i at' x d A D w p h ok o I C ha t g
structure jS (w:World) (s:Sl) (es:List (Int × Pd)):Prop where
 n:s.n=es.length
 m:s.n<=maxLen
 ex:∃ evs:List EdV,j8 w evs es∧zZ w 4 s.p s.n (fun k=>EdV.cells (evs.getD k Qu))
theorem jS.nil (w:World):jS w zi []:=⟨rfl,Nat.zero_le _,[],j8.nil w,⟨yo rfl,0,0,fun h=>absurd h (Nat.lt_irrefl 0),fun k g=>absurd g (Nat.not_lt_zero k)⟩⟩
theorem j8.grow {w w' : World}{g:List EdV}{es:List (Int × Pd)}(h:j8 w g es) (hb:Below w.heap.size w w'):j8 w' g es:=⟨h.len,fun k i=>⟨(h.at' k i).1,(h.at' k i).2.grow hb⟩⟩
theorem jS.grow {w w' : World}{s:Sl}{es:List (Int × Pd)}(h:jS w s es) (hb:Below w.heap.size w w'):jS w' s es:=by
 obtain⟨i,j,g,o,p⟩:=h;exact⟨i,j,g,o.grow hb,p.grow hb⟩
def Jk (w w' : World) (s:Sl) (es:List (Int × Pd)):Prop:=Loc w w' [] [fun w=>jS w s es]
theorem Jk.nil {w w' : World}(hb:Below w.heap.size w w'):Jk w w' zi []:=((Loc.start w).grow hb).pure (fun w=>jS.nil w)
theorem Loc.edges {w0 w:World}{K g:List zg}{D:List zl}{s:Sl}{i:List EdV}{es:List (Int × Pd)}(h:Loc w0 w (K++g) ((fun w=>j8 w i es)::D)) (j:zB 75 4 s.p s.n s.cap (i.flatMap EdV.cells) g):Loc w0 w K ((fun w=>jS w s es)::D):=by
 refine h.facts (fun R P t=>?_);obtain⟨C,I⟩:=j.listC (B:=w0.heap.size) (w:=R) zgE Qu (by decide) ⟨((List.sublist_append_right K g).map (fun e:zg=>e.1)).nodup h.nodup,fun e o=>⟨h.ids e (List.mem_append_right _ o),P e o⟩⟩;exact⟨C.trans t.len,j.max,i,t,I⟩
def Qo (is:Nat->Ins) (at' : Nat) (d:Pd):zav:=if d.none=true then ⟨[],false,false⟩ else zJ (is at') at' d
theorem zcW (p:Pg) (is:Nat->Ins) (x:Pv) (d:Pd) (at' : Nat) (w:World) (t:zf p is=0) (hc:zy w p is) (C:zq w x d) (h:zE p is d=0) (hat:at' < p.n):
  Calls prog 62 #[p.v,.int .i64 at',x.v] w fun e ad=>∃ s:Sl,e=.returned (.tuple #[.slice s.p s.n s.cap,.bool (Qo is at' d).wr,.bool (Qo is at' d).fl])∧Jk w ad s (Qo is at' d).es:=by
 have U:=zp t;have a7:=U.1.n1;cases hdn:d.none with
 | true=>
  have hxe:=C.e;rw[hdn]at hxe;rw[show Qo is at' d=⟨[],false,false⟩ from if_pos hdn];clear C h hc U t;obtain⟨aK,⟨ay,az,au⟩,⟨ax,aw,av⟩⟩:=x;dsimp only at hxe;subst hxe;have J:=Loc.start w;go_enter func62,ntmps62;go_wp2_with (with_reducible first|refine lld J ?_|((first|refine lbx J ?_|refine lal J ?_|refine lbs J ?_);clear J;intro aa w1 J)|(refine zc J ?_;clear J;intro w1 J))
  (try simp only[Exit.inBlock,Exit.then]);refine rt3 ?_
  exact⟨zi,rfl,Jk.nil J.below⟩
 | false=>
  rw[show Qo is at' d=zJ (is at') at' d from if_neg (by rw[hdn];decide)];have T:=q2.of h hdn;have hxe:=C.e;rw[hdn]at hxe;have I:=za (fun a4 A D ad a5=>zdv w a4 (is at') at' x d A D ad p a5 (qV.of T t C) (U.2 at' hat) (qq.of T t) (by rw[T.fields];exact hat) (by omega));obtain⟨aM,aP,ak,ab⟩:=hc;have al:=ak (by omega);have ah:=zd.agg (P:=prog) jP (ab at' hat).1 (fun j v a6=>(ab at' hat).2 j v a6) rfl;have a0:=za ah;clear C h ak ab U t T ah;unfold qf at I;generalize is at'=i at *;generalize zJ i at' d=o at *;obtain⟨aQ,aS,aR⟩:=o;obtain⟨aY,aV,aT,aW,aU⟩:=p;obtain⟨aK,⟨ay,az,au⟩,⟨ax,aw,av⟩⟩:=x;obtain⟨aB,aD,a8,a9,aC,aA⟩:=i;dsimp only at hxe al hat a7 I;subst hxe al;have J:=Loc.start w;go_enter func62,ntmps62;go_step;go_step;go_step
  ((with_reducible refine lbx J ?_);clear J;intro a1 w1 J)
  ((with_reducible refine lbx J ?_);clear J;intro a2 w1 J)
  go_upto_region 3 with(with_reducible first|refine lld J ?_|((first|refine lbx J ?_|refine lal J ?_|refine lbs J ?_);clear J;intro aa w1 J)|(refine zc J ?_;clear J;intro w1 J))
  obtain⟨aJ,ac⟩:∃ x,x=w1:=⟨_,rfl⟩;subst ac;refine zb [12,13,14,15,16,17,18,19,20] ?_
  iterate 4 refine qdv ?_
  refine qdl a0.out ?_
  iterate 3 refine qdv ?_
  refine qdp ?_;refine qy J ?_;intro g aH aj R q;simp only[aG]at q;obtain⟨a3,ao,ag,af⟩:=qye R 8;clear R;simp only[fD];simp only[q,ag];clear q ag;replace J:=J.gain aj ao af;clear ao af;clear aj;have ai:Stp w a3 ⟨aB,aD,a8,a9,aC,aA⟩ at' ⟨false,⟨ay,az,au⟩,⟨ax,aw,av⟩⟩ [] false false [(a2,_,_),(a1,_,_)] [] aH:=⟨zi,[],[],zB.nil,(J.pure (S:=fun w=>j8 w [] []) (fun w=>j8.nil w)).conv (by simp only[List.append_nil];rfl)⟩;have ae:=za (I.out _ _ _ _ ai);clear ai I;go_upto_region 5 with(first|(with_reducible first|refine lld J ?_|((first|refine lbx J ?_|refine lal J ?_|refine lbs J ?_);clear J;intro aa w1 J)|(refine zc J ?_;clear J;intro w1 J))|(go_at_call 107;refine ae.out.mono ?_;clear J;rintro e aI ⟨rfl,⟨⟨sp,ar,aq⟩,aN,aL,R,J⟩⟩;clear ae;dsimp only))
  obtain⟨aJ,ac⟩:∃ x,x=aI:=⟨_,rfl⟩;subst ac;refine zb [23,24,25,26,27,28,29,30,31,32,33,34,6,7,8] ?_
  iterate 15 refine qdv ?_
  refine dnd J ?_;clear J;intro aZ J;simp only[zr,sTa,sTb];go_wp2_with (with_reducible first|refine lld J ?_|((first|refine lbx J ?_|refine lal J ?_|refine lbs J ?_);clear J;intro aa w1 J)|(refine zc J ?_;clear J;intro w1 J))
  (try simp only[Exit.inBlock,Exit.then]);refine rt3 ?_
  refine⟨⟨sp,ar,aq⟩,rfl,?_⟩;exact(Loc.edges (K:=[_,_,_]) (s:=⟨sp,ar,aq⟩) J R).drop (List.nil_sublist _) (fun _ h=>h)
def Yj (p:Pg) (is:Nat->Ins) (at' : Int) (d:Pd):Int:=if cp1 p is d≠0 then cp1 p is d else if at' < 0∨(p.n:Int)<=at' then 5 else 0
def Xv (p:Pg) (is:Nat->Ins) (at' : Int) (d:Pd):zav:=if Yj p is at' d≠0 then ⟨[],false,false⟩ else Qo is at'.toNat d
theorem zab (p:Pg) (is:Nat->Ins) (x:Pv) (d:Pd) (at' : Int) (w:World) (hn:p.n<=9223372036854775807) (hc:zy w p is) (U:zq w x d):
  Calls prog 26 #[p.v,.int .i64 at',x.v] w fun e C=>∃ s:Sl,e=.returned (.tuple #[.slice s.p s.n s.cap,.bool (Xv p is at' d).wr,.bool (Xv p is at' d).fl,.int .i64 (Yj p is at' d)])∧Jk w C s (Xv p is at' d).es:=by
 have t:=fun C (R:Below w.heap.size w C)=>Xf p is x d C hn (hc.grow R) (U.grow R)
 have P:=za (show Yj p is at' d=if cp1 p is d≠0 then cp1 p is d else if at' < 0∨(p.n:Int)<=at' then 5 else 0 from rfl);have j:=za (show Xv p is at' d=if Yj p is at' d≠0 then ⟨[],false,false⟩ else Qo is at'.toNat d from rfl);by_cases h0:cp1 p is d=0
 case neg=>
  have g:Yj p is at' d=cp1 p is d:=P.out.trans (if_pos h0);rw[g,if_pos h0]at j;rw[g,j.out];have k0:(cp1 p is d != 0)=true:=by simpa using h0
  generalize cp1 p is d=c at *;have I:=za t;clear t U hc g P j h0;obtain⟨ak,⟨al,an,ag⟩,⟨aj,ai,ah⟩⟩:=x;have J:=Loc.start w;go_enter func26,ntmps26;go_wp2_with (first|(with_reducible first|refine lld J ?_|((first|refine lbx J ?_|refine lal J ?_|refine lbs J ?_);clear J;intro ac i J)|(refine zc J ?_;clear J;intro i J))|(go_at_call 51;refine cg J (I.out _ J.below) ?_;clear J;intro i J;dsimp only))
  (try simp only[Exit.inBlock,Exit.then]);refine rt4 ?_
  exact⟨zi,rfl,Jk.nil J.below⟩
 obtain⟨ab,ad⟩:=zbs h0;rw[h0]at t;have ax:=(zp ab).1.n1;by_cases T:at' < 0∨(p.n:Int)<=at'
 ·have g:Yj p is at' d=5:=P.out.trans ((if_neg (by omega)).trans (if_pos T))
  rw[g,if_pos (by decide)]at j;rw[g,j.out];have I:=za t;clear t U hc g P j h0 ab ad;obtain⟨ak,⟨al,an,ag⟩,⟨aj,ai,ah⟩⟩:=x;by_cases aa:at' < 0
  ·have ae:decide (at' < 0)=true:=decide_eq_true aa
   clear T aa;have J:=Loc.start w;go_enter func26,ntmps26;go_wp2_with (first|(with_reducible first|refine lld J ?_|((first|refine lbx J ?_|refine lal J ?_|refine lbs J ?_);clear J;intro ac i J)|(refine zc J ?_;clear J;intro i J))|(go_at_call 51;refine cg J (I.out _ J.below) ?_;clear J;intro i J;dsimp only))
   (try simp only[Exit.inBlock,Exit.then]);refine rt4 ?_
   exact⟨zi,rfl,Jk.nil J.below⟩
  ·have ae:decide (at' < 0)=false:=decide_eq_false aa
   have aq:decide ((p.n:Int)<=at')=true:=decide_eq_true (by omega);clear T aa;have J:=Loc.start w;go_enter func26,ntmps26;go_wp2_with (first|(with_reducible first|refine lld J ?_|((first|refine lbx J ?_|refine lal J ?_|refine lbs J ?_);clear J;intro ac i J)|(refine zc J ?_;clear J;intro i J))|(go_at_call 51;refine cg J (I.out _ J.below) ?_;clear J;intro i J;dsimp only))
   (try simp only[Exit.inBlock,Exit.then]);refine rt4 ?_
   exact⟨zi,rfl,Jk.nil J.below⟩
 ·have g:Yj p is at' d=0:=P.out.trans ((if_neg (by omega)).trans (if_neg T))
  rw[g,if_neg (by decide)]at j;rw[g,j.out];obtain⟨k,rfl⟩:∃ k:Nat,at'=k:=⟨at'.toNat,by omega⟩;rw[show ((k:Int)).toNat=k from rfl];have ar:k<p.n:=by omega
  have ao:=za (fun C (R:Below w.heap.size w C)=>zcW p is x d k C ab (hc.grow R) (U.grow R) ad ar);have I:=za t;have ae:decide ((k:Int)<0)=false:=decide_eq_false (by omega);have aq:decide (p.n<=k)=false:=decide_eq_false (by omega);generalize Qo is k d=o at *;obtain⟨ay,a0,az⟩:=o;clear t U hc g P j h0 ab ad T;obtain⟨ak,⟨al,an,ag⟩,⟨aj,ai,ah⟩⟩:=x;have J:=Loc.start w;go_enter func26,ntmps26;go_wp2_with (first|(with_reducible first|refine lld J ?_|((first|refine lbx J ?_|refine lal J ?_|refine lbs J ?_);clear J;intro ac i J)|(refine zc J ?_;clear J;intro i J))|(go_at_call 51;refine cg J (I.out _ J.below) ?_;clear J;intro i J;dsimp only)|(go_at_call 62;refine(ao.out _ J.below).mono ?_;rintro e a1 ⟨⟨sp,aw,av⟩,rfl,af⟩;replace J:=J.gave af;simp only[List.cons_append,List.append_nil,List.nil_append]at J;clear af;dsimp only))
  (try simp only[Exit.inBlock,Exit.then]);refine rt4 ?_
  exact⟨⟨sp,aw,av⟩,rfl,J.drop (List.nil_sublist _) (fun _ h=>h)⟩
def JK (g:World) (es:List (Int × Pd)):Value->World->Prop:=fun v w=>∃ s:Sl,v=.tuple #[.slice s.p s.n s.cap,.bool false,.bool false,.int .i64 0]∧Jk g w s es
theorem JK.stable {o:World}{es:List (Int × Pd)}:qC (JK o es):=by
 rintro v w p j ⟨r,g,i⟩;exact⟨r,g,i.grow j⟩
def Gm (g:World) (es:List (Int × Pd)):Value->World->Prop:=fun v w=>∃ s:Sl,v=.slice s.p s.n s.cap∧Jk g w s es
theorem Gm.stable {o:World}{es:List (Int × Pd)}:qC (Gm o es):=by
 rintro v w p j ⟨r,g,i⟩;exact⟨r,g,i.grow j⟩
abbrev ziu:Res:=⟨false,⟨false,5,5⟩,false,false,[]⟩
abbrev U2 : Pd:=qM 1 0 2
abbrev jw:List (Int × Pd):=[(1,U2.setVar 0 ziu)]
theorem Vc (b:Nat):Yj (z1 b) zT 0 U2=0∧Xv (z1 b) zT 0 U2=⟨jw,false,false⟩:=⟨rfl,rfl⟩
theorem jS.small {w:World}{s:Sl}(h:jS w s jw):∃ (b j o i ar:Nat),s.p=some ⟨b,j,none⟩∧s.n=1∧zd prog 3 w b j (.int .i64 1)∧zd prog 51 w b (j+1+1) (.slice (some ⟨o,i,none⟩) 1 ar)∧zd prog 106 w o (i+1) (.agg #[.bool false,.int .i64 5,.int .i64 5]):=by
 obtain⟨an,ax,I,ak,al⟩:=h;have ao:s.n=1:=an;obtain⟨b,j,aq,aj⟩:=al.ex;obtain⟨P,T⟩:=aj 0 (by omega);obtain⟨ad,ae⟩:=ak.at' 0 (by decide);obtain⟨af,au,ay,ah,av⟩:=ae.vars;obtain⟨o,i,ai,aa⟩:=ah.ex;have ag : (I.getD 0 Qu).x.vars.n=1:=af;obtain⟨ab,R⟩:=aa 0 (by omega);have t:=T 0 _ rfl;have C:=T 2 _ rfl;rw[ad]at t;rw[ai (by omega),ag]at C;simp only[Nat.zero_mul,Nat.add_zero]at t C R;refine⟨b,j,o,i,(I.getD 0 Qu).x.vars.cap,aq (by omega),ao,zd.cell y2 P t,zd.cell jZ P C,zd.agg (l:=[.bool false,.int .i64 5,.int .i64 5]) zfX ab (fun g v U=>?_) rfl⟩;have ac:=R (g+1) v;rw[show i+1+g=i+(g+1) by omega];refine ac ?_;have aw:g<3:=(List.getElem?_eq_some_iff.1 U).1;obtain rfl|rfl|rfl:g=0∨g=1∨g=2:=by omega
 all_goals exact U
theorem Xi (w:World):
  Calls prog 18 #[] w fun e P=>e=.returned (.bool true)∧Below w.heap.size w P:=by
 have J:=Loc.start w;go_enter func18,ntmps18;go_upto_region 2 with(first|(with_reducible first|refine lld J ?_|((first|refine lbx J ?_|refine lal J ?_|refine lbs J ?_);clear J;intro ak p J)|(refine zc J ?_;clear J;intro p J))|(go_at_call 39;refine(j0 _).mono ?_;rintro e af ⟨al,rfl,ad,ae,ac⟩;replace J:=J.gain ac ad ae;clear ad ae ac;(try dsimp only))|(go_at_call 49;refine(X5 (z1 al) zT 1 0 rfl rfl (by decide) (by decide) (show (2:Nat)<=1000 by decide) _ (qY (J.heap cIn)) (jl al)).mono ?_;rintro e af ⟨⟨a3,⟨a4,a5,az⟩,⟨a2,a1,a0⟩⟩,rfl,aw⟩;replace J:=J.gotP aw (show (qM 1 0 2).vars.length+(qM 1 0 2).fields.length<=9223372036854775807 by decide);clear aw;dsimp only))
 have ay:=J.get (S:=fun w=>zq w ⟨a3,⟨a4,a5,az⟩,⟨a2,a1,a0⟩⟩ (qM 1 0 2)) cMm;have ag:=fun (t:Nat) P (j:Below p.heap.size p P) (a9:zy P (z1 t) zT)=>zab (z1 t) zT ⟨a3,⟨a4,a5,az⟩,⟨a2,a1,a0⟩⟩ U2 0 P (show (2:Nat)<=9223372036854775807 by decide) a9 (ay.grow j)
 simp only[(Vc _).1,(Vc _).2]at ag;have aj:=za ag;clear ag ay;obtain⟨i,aA⟩:∃ x,x=p:=⟨_,rfl⟩;subst aA;refine zb [13,14,15,12,16,17,18,19,3,4,5,6] ?_;refine qdn (SmR i.heap.size) SmR.stable J ?_ ?_
 ·intro g w j J _ q;simp only[fD]
  go_wp2_with (go_at_call 39;refine(j0 _).mono ?_;rintro e af ⟨t,rfl,ad,ae,ac⟩;dsimp only);exact⟨rfl,_,rfl,ac,t,Nat.le_trans j.size ad,rfl,ae⟩
 refine qdv ?_;refine qdn (JK i jw) JK.stable J ?_ ?_
 ·intro g w j J u q;simp only[aG]at q;have d0:(SmR i.heap.size) (g 13) w:=yr u 0;obtain⟨t,-,d0,aB⟩:=d0;clear u;simp only[fD];simp only[q,d0]
  go_wp2_with (go_at_call 26;refine(aj.out t _ j (qY aB)).mono ?_;rintro e af ⟨s,rfl,hG⟩;dsimp only);exact⟨rfl,_,rfl,hG.below,s,rfl,Loc.since j hG⟩
 refine qdn (JK i jw) JK.stable J ?_ ?_
 ·intro g w j J u q;have d2:(JK i jw) (g 15) w:=yr u 2;obtain⟨s,d2,hG⟩:=d2;clear u;simp only[fD];simp only[d2]
  go_wp2_with (fail);exact⟨rfl,_,rfl,Below.refl _ _,s,rfl,hG⟩
 refine qdn (Gm i jw) Gm.stable J ?_ ?_
 ·intro g w j J u q;have d3:(JK i jw) (g 12) w:=yr u 3;obtain⟨s,d3,hG⟩:=d3;clear u;simp only[fD];simp only[d3]
  go_wp2_with (fail);exact⟨rfl,_,rfl,Below.refl _ _,s,rfl,hG⟩
 refine' j2 J ?_ ?_;rotate_left
 ·intro g w j J u q;have d3:(JK i jw) (g 12) w:=yr u 3;obtain⟨s,d3,hG⟩:=d3;clear u;simp only[fD];simp only[d3]
  go_wp2;exact cY
 refine' j2 J ?_ ?_;rotate_left
 ·intro g w j J u q;have d3:(JK i jw) (g 12) w:=yr u 3;obtain⟨s,d3,hG⟩:=d3;clear u;simp only[fD];simp only[d3]
  go_wp2;exact cY
 refine' j2 J ?_ ?_;rotate_left
 ·intro g w j J u q;have d3:(JK i jw) (g 12) w:=yr u 3;obtain⟨s,d3,hG⟩:=d3;clear u;simp only[fD];simp only[d3]
  go_wp2;exact cY
 refine qdn (Gm i jw) Gm.stable J ?_ ?_
 ·intro g w j J u q;simp only[aG]at q;have d4:(Gm i jw) (g 16) w:=yr u 4;obtain⟨s,d4,hG⟩:=d4;clear u;simp only[fD];simp only[q,d4]
  go_wp2_with (fail);exact⟨rfl,_,rfl,Below.refl _ _,s,rfl,hG⟩
 iterate 3 refine qdv ?_
 refine qy J ?_;intro g I j C q;simp only[aG]at q;have R:(SmR i.heap.size) (g 13) I:=qye C 0;obtain⟨aF,-,R,-⟩:=R;have T:(JK i jw) (g 15) I:=qye C 2;obtain⟨aJ,T,-⟩:=T;have U:(JK i jw) (g 12) I:=qye C 3;obtain⟨aK,U,-⟩:=U;have aa:(Gm i jw) (g 16) I:=qye C 4;obtain⟨aL,aa,-⟩:=aa;have ab:(Gm i jw) (g 3) I:=qye C 8;obtain⟨⟨sp,aD,aC⟩,ab,av⟩:=ab;have ax:=J;have a8:=j;clear C;simp only[fD];simp only[q,R,T,U,aa,ab];clear q R T U aa ab;replace J:=J.grow j;clear j;clear J aj;have J:=ax.gave av;clear ax a8 av;simp only[List.append_nil,aX]at J;obtain⟨b,o,aE,aI,aM,an,ao,aq,ar,au⟩:=(J.get (S:=fun w=>jS w ⟨sp,aD,aC⟩ jw) cMm).small;dsimp only at an ao;subst an ao;have a6:=za aq;have ah:=za ar;have a7:=za au;clear aq ar au;have ai:=za J.below;clear J;have J:=Loc.start I;go_upto_region 3 with(with_reducible first|refine lld J ?_|((first|refine lbx J ?_|refine lal J ?_|refine lbs J ?_);clear J;intro ak p J)|(refine zc J ?_;clear J;intro p J))
 refine zx [20,21,22,23,24,25,26,27,28,29,30,31,32,33,34,35,36,37,38,39,40,41,42,43,44,45,46,47,48,49,50,51,52,53,54,55,56,57,58,59,60,61,62,0] ?_
 iterate 19 refine qdv ?_
 refine qdl a6.out ?_
 iterate 7 refine qdv ?_
 refine qdl ah.out ?_
 iterate 8 refine qdv ?_
 refine qdl ah.out ?_
 iterate 2 refine qdv ?_
 refine qdl a7.out ?_
 iterate 4 refine qdv ?_
 refine dns J ?_;clear J;intro af J;simp only[zr,sTa,sTb];go_wp2_with (with_reducible first|refine lld J ?_|((first|refine lbx J ?_|refine lal J ?_|refine lbs J ?_);clear J;intro ak p J)|(refine zc J ?_;clear J;intro p J))
 (try simp only[Exit.inBlock,Exit.then]);refine rt1 ?_
 exact⟨by simp,ai.out.trans (J.below.mono ai.out.size)⟩
end Go.Proofs.YtplcndmdkabmeaaGreatDoor
