/- The walk over solve.Fits where all is right. Conditions: right pictures, one for each place. -/
import Derived.Test.YtplcndmdkabmeaaGreatDoorSolG
set_option linter.unusedSimpArgs false
set_option linter.unusedVariables false
set_option maxRecDepth 100000
set_option maxHeartbeats 4000000
namespace Go.Proofs.YtplcndmdkabmeaaGreatDoor
open Go.Proofs.Tryz
open Go.RowKit
theorem Loc.turnN {w0 w:World}{L:List zg}(h:Loc w0 w L []) {r:Nat}(j:w0.heap.size<=r) {o' : Obj}(i:¬ ym w r):Loc w0 (w.putObj r o') L []:=
 ((h.pure (S:=yD [] []) (fun w k g=>absurd g (Nat.not_lt_zero k))).turnL j i).drop (List.Sublist.refl _) (fun _ h=>by cases h)
abbrev ziy (D:Nat):zl:=fun w=>w.heap[D]? = some (.deferred (some []))
theorem Loc.defer {w0 w:World}{L:List zg}(h:Loc w0 w L []) {D:Nat}(C:w0.heap.size<=D) (g:w.heap[D]? = some (.deferred (some []))):Loc w0 w L [ziy D]:=by
 refine⟨h.below,h.nodup,h.ids,h.cells,fun S o=>?_⟩;rw[List.mem_singleton.1 o];refine⟨fun b=>b=D,fun b i=>⟨⟨by rw[i];exact zz g,by rw[i];exact C⟩,fun e p t=>?_⟩,fun P I=>(I D rfl).trans g⟩;have j:=h.cells e p;rw[t,i,g]at j;cases j
theorem zao {P:Program}{w:World}{g:Array Value}{fn:Func}{r s:ResultVar}{v u:Value}(i:fn.results=#[r,s]) (h:QJ P w g r v) (k:QJ P w g s u):(results fn g).run P w=.ok (.tuple #[v,u]) w:=by
 rw[yK,i];simp[h.run,k.run]
abbrev nxF (l:List Pd):Nat->Int × Pd->Bool->Bool:=fun _ d s=>s&&qt d.2 (l.getD d.1.toNat zC)
theorem XD (l:List Pd) (i:Nat):∀ (g:List (Int × Pd)) (s:Bool),g.foldl (fun s d=>nxF l i d s) s=(s&&g.all fun x=>qt x.2 (l.getD x.1.toNat zC))
 | [],s=>by simp
 | x::g,s=>by rw[List.foldl_cons,XD l i g,List.all_cons,Bool.and_assoc]
theorem Kh (is:Nat->Ins) (l:List Pd):∀ k:Nat,z8 is (nxF l) (fun _=>l) k true=Kx is k l
 | 0=>rfl
 | k+1=>by
  rw[Qm,Kh is l k];unfold Uk KL;rw[XD];unfold Kx;rw[List.range_succ,List.all_append];simp
theorem jp {P:Program}{n:Nat}{r:Option Nat}{a:Act}{w:World}{Q:Exit->Act->World->Prop}{id:Nat}{l:List Oper}(h:wpList P l.toArray Q l a w) (g:l.all (fun j=>!Q7 j)=true:=by decide) (i:¬ LetsOut Q:=by(rintro⟨_,_,h,_⟩;cases h)):(Code.region id l.toArray false).wpIn (inR r) n P Q a w:=je g i h
theorem zeS {P:Program}{n:Nat}{r:Option Nat}{a:Act}{w:World}{Q:Exit->Act->World->Prop}{id:Nat}{ops:Array Oper}(h:Qw P ops Q a w) (g:ops.toList.all (fun j=>!Q7 j)=true:=by decide) (i:¬ LetsOut Q:=by(rintro⟨_,_,h,_⟩;cases h)):(Code.region id ops true).wpIn (inR r) n P Q a w:=GG g i h
theorem zgj (p:Pg) (is:Nat->Ins) (nv nf:Nat) (hv:p.vars=nv) (hf:p.fields=nf) (s:Sl) (l:List Pd) (a3:zf p is=0) (w:World) (hc:zy w p is) (aC:yq w s l) (aE:s.n=p.n+1) (I:∀ k,k<=p.n->zE p is (l.getD k zC)=0):
  Calls prog 52 #[p.v,.slice s.p s.n s.cap] w fun e j=>e=.returned (.tuple #[.bool (zda is p.n l (qM nv nf p.n)),.int .i64 0])∧Below w.heap.size w j:=by
 refine(callsIn_wide (n:=2)).1 ?_;refine callsIn_of_wp_marks func52 rfl trivial ?_ rfl;simp only[ntmps52,List.size_toArray,List.length_cons,List.length_nil,Nat.reduceAdd,Nat.reduceSub,Array.replicate_succ,Array.replicate_zero,List.push_toArray,List.append_toArray,aX];have aj:=(zp a3).1;have av:=aj.v2;have ag:=aj.f2;have b7:=aj.n1;have ah:=fun j (hb:Below w.heap.size w j)=>jn p is j (hc.grow hb) (by omega)
 rw[a3]at ah;have aV:=za ah;obtain⟨aw,C,a4⟩:=aC.ex;obtain⟨b,o,aQ,aB⟩:=C.ex;have bp:=aC.n;have aO:=aC;obtain⟨sp,sn,ad⟩:=s;dsimp only at aQ aB a4 aE bp aO ⊢;clear C aC;have bl:=Jv (p:=p) (is:=is) hv hf;have bz:=za (fun j=>Uh p nv nf hv hf (by omega) (by omega) (by omega) j);have bw:=za (y9 a3 bl);obtain rfl:=aQ (by omega);have aI:=za (fun k (ah:k<=p.n)=>zd.agg (P:=prog) Zj (aB k (by omega)).1 (aB k (by omega)).2 rfl);have aT:=za (fun k (ah:k<sn) j (hb:Below w.heap.size w j)=>(show Calls prog 98 #[p.v,(aw k).v] j fun e aH=>e=.returned (.int .i64 0)∧Below j.heap.size j aH by
  have h:=KR p is (aw k) (l.getD k zC) j b7 (hc.grow hb) ((a4 k ah).grow hb);rw[I k (by omega)]at h;exact h))
 have aU:=za (fun x d k j (a6:Below w.heap.size w j) (C:zq j x d) (ah:k<=p.n)=>UF x (aw k) d (l.getD k zC) j C ((a4 k (by omega)).grow a6));have aK:=za (show zda is p.n l (qM nv nf p.n)=(Kx is p.n l&&qt (qM nv nf p.n) (l.getD 0 zC)) from rfl);have ca:((sn:Int) != (p.n:Int)+1)=false:=by rw[aE];simp
 have b6:=za aO;have b3:=za hc;have aW:=za a3;have b5:=za I;have ax:=za aE;have bO:=za a4;have cc:wrap64 ((p.n:Int)+1)=(p.n:Int)+1:=by unfold wrap64;omega
 have bY:sn<=61:=by omega
 clear aj aQ aB av ag bl ah aO hc I bp aE a3 a4;generalize qM nv nf p.n=f0 at *;obtain⟨ch,cf,U,pn,R⟩:=p;dsimp only at *;subst hv hf;show Code.wpIn (inR none) _ _ _ _ _ _
 have J:=Loc.start w
 iterate 2 gi_step
 refine je ?hd0 ?hq0 ?hw0
 case hd0=>decide
 case hq0=>rintro⟨_,_,h,_⟩;cases h
 go_wp2_with (first|((with_reducible refine lbx (T:=27) J ?_);clear J;intro al w1 J)|((with_reducible refine lbx (T:=58) J ?_);clear J;intro ao w1 J)|((with_reducible refine lal J ?_ (hz:=zeX));clear J;intro aq w1 J)|((with_reducible refine lal J ?_ (hz:=zgt));clear J;intro ar w1 J))
 iterate 2 gi_step
 refine jp ?_;go_wp2_with (first|(go_at_call 43;refine cg J (aV.out _ J.below) ?_;clear J;intro w1 J;dsimp only)|(with_reducible first|refine lld J ?_|((first|refine lbx J ?_|refine lal J ?_|refine lbs J ?_);clear J;intro ae w1 J)|(refine zc J ?_;clear J;intro w1 J)))
 gi_step
 refine jp ?_;go_wp2
 iterate 6 gi_step
 refine jp ?_;go_wp2_with (with_reducible first|refine lld J ?_|((first|refine lbx J ?_|refine lal J ?_|refine lbs J ?_);clear J;intro ae w1 J)|(refine zc J ?_;clear J;intro w1 J))
 iterate 6 gi_step
 refine jp ?_;go_wp2_with (with_reducible first|refine lld J ?_|((first|refine lbx J ?_|refine lal J ?_|refine lbs J ?_);clear J;intro ae w1 J)|(refine zc J ?_;clear J;intro w1 J))
 gi_wp2
 gi_loopw [27] (fun c wr=>∃ k:Nat,k<=sn∧c=.int .i64 k∧Loc w wr [(ar,22,[.int .i64 0]),(aq,4,[.bool false]),(ao,58,[.slice (some ⟨b,o,none⟩) sn ad]),(al,27,[.int .i64 nv,.int .i64 nf,.slice U pn R])] []) (fun c _=>sn+1 - (intOf c).toNat)
 case atStart=>exact⟨0,Nat.zero_le _,rfl,J⟩
 case round=>
  clear J;obtain⟨k,ah,rfl,J⟩:=hrel;by_cases bq:k<sn
  ·have I:=aI.out k (by have:=ax.out;omega)
   have aD:=aT.out k bq;have bk:decide ((k:Int)<(sn:Int))=true:=decide_eq_true (by omega);generalize aw k=x at I aD;obtain⟨bL,⟨cm,cl,ck⟩,⟨bR,fn,bQ⟩⟩:=x;dsimp only[Pv.v,Pv.cells]at I aD;have b4:=za I;have b0:=za aD;clear I aD
   iterate 2 gi_step
   refine jp ?_;go_wp2
   iterate 8 gi_step
   refine jp ?_;go_wp2_with (with_reducible first|refine ldB b4.out J ?_|refine lld J ?_|((first|refine lbx J ?_|refine lal J ?_|refine lbs J ?_);clear J;intro ae w1 J)|(refine zc J ?_;clear J;intro w1 J))
   gi_step
   refine jp ?_;go_wp2_with (first|(go_at_call 98;refine cg J (b0.out _ J.below) ?_;clear J;intro w1 J;dsimp only)|(with_reducible first|refine lld J ?_|((first|refine lbx J ?_|refine lal J ?_|refine lbs J ?_);clear J;intro ae w1 J)|(refine zc J ?_;clear J;intro w1 J)))
   gi_step
   refine jp ?_;go_wp2
   gi_wp2
   go_roundw
   case rel=>exact⟨k+1,by omega,by go_num,J.drop (List.sublist_cons_self _ _) (fun _ h=>h)⟩
   case measure=>simp[intOf];omega
  ·have bk:decide ((k:Int)<(sn:Int))=false:=decide_eq_false (by omega)
   clear aT aV bk;obtain rfl:sn=k:=by omega
   clear bq ah
   iterate 2 gi_step
   refine jp ?_;go_wp2
   iterate 8 gi_step
   refine jp ?_;go_wp2_with (with_reducible first|(refine lbx J ?_;clear J;intro af w1 J)|refine lld J ?_|((first|refine lbx J ?_|refine lal J ?_|refine lbs J ?_);clear J;intro ae w1 J)|(refine zc J ?_;clear J;intro w1 J))
   iterate 2 gi_step
   refine jp ?_;go_wp2_with (with_reducible first|refine lld J ?_|((first|refine lbx J ?_|refine lal J ?_|refine lbs J ?_);clear J;intro ae w1 J)|(refine zc J ?_;clear J;intro w1 J))
   gi_step
   obtain⟨ak,bD⟩:∃ x,x=w1:=⟨_,rfl⟩;subst bD;have bC:=J.size;have bo:af<ak.heap.size∧ar<ak.heap.size∧aq<ak.heap.size∧ao<ak.heap.size∧al<ak.heap.size:=⟨zz (J.cells (af,_,_) cMm),zz (J.cells (ar,_,_) cMm),zz (J.cells (aq,_,_) cMm),zz (J.cells (ao,_,_) cMm),zz (J.cells (al,_,_) cMm)⟩;have bv:=za (Kh is l pn);have b1:=za J;clear J;refine VF (gf:=99) (fb:=#[.pointer (some ⟨af,0,none⟩)]) (lb:=#[]) (σ:=Bool) (encs:=EdX.encs) (Need:=fun _=>Uj ⟨nv,nf,U,pn,R⟩ is af ⟨some ⟨b,o,none⟩,sn,ad⟩ l) (G:=zcD ⟨nv,nf,U,pn,R⟩ is (fun _:Bool=>l)) (next:=fun s x=>nxF l x.i x.d s) (fin:=z8 is (nxF l) (fun _=>l) pn) rfl (fun args w=>by kernel_rfl) (fun _=>rfl)
    (zba ⟨nv,nf,U,pn,R⟩ is aW.out af ⟨some ⟨b,o,none⟩,sn,ad⟩ (nxF l) (fun _=>l) _ _)
    (fun s W=>s=true∧Loc w W [(af,144,[.int .i64 nv,.int .i64 nf,.slice U pn R,.slice (some ⟨b,o,none⟩) sn ad]),(ar,22,[.int .i64 0]),(aq,4,[.bool false]),(ao,58,[.slice (some ⟨b,o,none⟩) sn ad]),(al,27,[.int .i64 nv,.int .i64 nf,.slice U pn R])] [])
    (fun W=>Kx is pn l=false∧Loc w W [(af,144,[.int .i64 nv,.int .i64 nf,.slice U pn R,.slice (some ⟨b,o,none⟩) sn ad]),(ar,22,[.int .i64 0]),(aq,4,[.bool false]),(ao,58,[.slice (some ⟨b,o,none⟩) sn ad]),(al,27,[.int .i64 nv,.int .i64 nf,.slice U pn R])] [])
    ?hJ ?hJx ?hN ?hG true ⟨rfl,b1.out⟩
    (fun x aL W=>∃ ai,w.heap.size<=ai∧aL=⟨#[.agg #[.int .i64 nv,.int .i64 nf,.slice U pn R],.slice (some ⟨b,o,none⟩) sn ad,.pointer (some ⟨al,0,none⟩),.pointer (some ⟨ao,0,none⟩),.pointer (some ⟨aq,0,none⟩),.pointer (some ⟨ar,0,none⟩),.int .i64 0,undef,u8,u9,.pointer (some ⟨af,0,none⟩),undef,.pointer (some ⟨ai,0,none⟩),.agg #[.int .i64 nv,.int .i64 nf,.slice U pn R],.int .i64 0,.int .i64 0,.bool false,undef,.slice (some ⟨b,o,none⟩) sn ad,.int .i64 sn,.pointer (some ⟨al,2,none⟩),.slice U pn R,.int .i64 pn,.int .i64 ((pn:Int)+1),.bool false,.slice (some ⟨b,o,none⟩) sn ad,.int .i64 sn,.int .i64 sn,.bool false,u29,u30,u31,u32,u33,u34,u35,u36,u37,.agg #[.int .i64 nv,.int .i64 nf,.slice U pn R],.slice (some ⟨b,o,none⟩) sn ad,.agg #[.int .i64 nv,.int .i64 nf,.slice U pn R,.slice (some ⟨b,o,none⟩) sn ad],.pointer (some ⟨af,0,none⟩),.pointer (some ⟨af,0,none⟩),.func (.func 99) #[.pointer (some ⟨af,0,none⟩)] #[],.int .i64 x.i,.agg #[.int .i64 x.e.go,.bool x.e.x.none,.slice x.e.x.vars.p x.e.x.vars.n x.e.x.vars.cap,.slice x.e.x.fields.p x.e.x.fields.n x.e.x.fields.cap],undef,undef,undef,undef,undef,undef,undef,undef,undef,undef,undef,undef,undef,undef,undef],[]⟩∧W.heap[ai]? = some (.cells #[.int .i64 x.e.go,.bool x.e.x.none,.slice x.e.x.vars.p x.e.x.vars.n x.e.x.vars.cap,.slice x.e.x.fields.p x.e.x.fields.n x.e.x.fields.cap] 75 (0,0)))
    ?hAx ?hassign ?hbody ?hdone ?hstop
   case hJ=>
    exact fun s=>⟨fun W ba hb h=>⟨h.1,h.2.grow hb⟩,fun W r bu I h=>⟨h.1,h.2.turnN (by omega) (fun ⟨_,_,_,hc⟩=>by rw[I]at hc;cases hc)⟩⟩
   case hJx=>exact⟨fun W ba hb h=>⟨h.1,h.2.grow hb⟩,fun W r bu I h=>⟨h.1,h.2.turnN (by omega) (fun ⟨_,_,_,hc⟩=>by rw[I]at hc;cases hc)⟩⟩
   case hN=>
    intro s W h;have au:=b6.out.grow h.2.below;obtain⟨bN,bG,bH⟩:=au.ex;exact⟨h.2.cells _ List.mem_cons_self,b3.out.grow h.2.below,ax.out,by rw[<- au.n];exact ax.out,⟨bN,bG,bH⟩,b5.out⟩
   case hG=>exact fun s x=>zcD.abides
   case hAx=>
    refine fun x aL=>⟨fun W ba hb ⟨ai,au,av,ag⟩=>⟨ai,au,av,by rw[hb.block _ (zz ag)];exact ag⟩,fun W r bu I ⟨ai,au,av,ag⟩=>⟨ai,au,av,?_⟩⟩
    rw[World.putObj_heap_other (fun e=>by rw[e,I]at ag;cases ag)];exact ag
   case hassign=>
    rintro bJ s ⟨i,⟨aM,⟨bf,⟨bg,bh,bb⟩,⟨be,bd,bc⟩⟩⟩,bP⟩ W K aj C ab;dsimp only[EdX.encs];simp only[List.zip_toArray,List.zip_cons_cons,List.zip_nil_left,List.zip_nil_right,List.foldl_toArray,List.foldl_cons,List.foldl_nil,List.setIfInBounds_toArray,List.set_cons_succ,List.set_cons_zero];dsimp only at ab ⊢;have J:=Loc.start W;refine Q1 ?_;go_wp2_with (with_reducible first|refine lld J ?_|((first|refine lbx J ?_|refine lal J ?_|refine lbs J ?_);clear J;intro ae w1 J)|(refine zc J ?_;clear J;intro w1 J));have a0:W.heap.size<=ae:=J.ids _ List.mem_cons_self;have bF:w.heap.size<=W.heap.size:=aj.2.size;exact ab _ _ J.below ⟨ae,Nat.le_trans bF a0,rfl,J.heap cIn⟩
   case hbody=>
    intro bJ s x aL W bW aj C b9;have aN:=C.2 (fun _ _=>rfl);replace C:=C.1;obtain⟨bm,-⟩:=C.fits aW.out;have bn:=C.go;have aR:=C.x;have bs:=C.i;clear C;obtain⟨i,⟨aM,⟨bf,⟨bg,bh,bb⟩,⟨be,bd,bc⟩⟩⟩,⟨dg,ay⟩⟩:=x;dsimp only at bm bn aR aN bs;subst bn;obtain⟨t,rfl⟩:∃ t:Nat,aM=t:=⟨aM.toNat,by omega⟩;have br:t<=pn:=by omega
    have a8:=za (fun h=>zfu (l:=l) bs aN (by exact h));clear bm aN;obtain⟨ai,bB,rfl,a0⟩:=b9;obtain⟨rfl,J⟩:=aj;dsimp only at a0 a8;rw[show ((t:Int)).toNat=t from rfl]at a8;have cb:((t:Int)<(sn:Int)):=by have:=ax.out;omega
    have aF:=aI.out t br;have a5:=fun j (a6:Below w.heap.size w j) (hb:Below W.heap.size W j)=>aU.out ⟨bf,⟨bg,bh,bb⟩,⟨be,bd,bc⟩⟩ ay t j a6 (aR.grow hb) br
    have aP:nxF l i ((t:Int),ay) true=qt ay (l.getD t zC):=by show (true&&qt ay (l.getD ((t:Int)).toNat zC))=_;rw[Bool.true_and];rfl
    replace J:=J.also7 a0 bB (by intro e a2;simp only[List.mem_cons,List.not_mem_nil,or_false]at a2;rcases a2 with rfl|rfl|rfl|rfl|rfl<;>(dsimp only;decide));replace J:=J.kept (B:=ak.heap.size) bC (by intro e a2;simp only[List.mem_cons,List.not_mem_nil,or_false]at a2;obtain⟨av,ag,bS,bT,bU⟩:=bo;rcases a2 with rfl|rfl|rfl|rfl|rfl<;>assumption);generalize qt ay (l.getD t zC)=bI at a5 a8 aP;generalize aw t=bM at aF a5;obtain⟨bL,⟨c1,c2,cx⟩,⟨c0,cz,cy⟩⟩:=bM;dsimp only[Pv.v,Pv.cells]at aF a5;have aZ:=za aF;have aY:=za a5;have b2:=za aP;clear aF a5 aP aR a0 bo;simp only[Nat.reduceSub]
    iterate 3 gi_step
    refine Q0 ?_;refine jB [46,47,48,49,50,51,52,53,54] ?_
    iterate 6 refine qdv ?_
    refine qdl aZ.out ?_;refine qdk J (fun _ hb J=>aY.out _ J.below hb) ?_;refine qdv ?_;refine Kt J ?_;intro g aH hb _ q;simp only[aG]at q;simp only[fD];simp only[q];clear q;replace J:=J.grow hb;clear hb;clear aY aZ;cases bI with
    | true=>
     go_wp2
     gi_wp2
     (try simp only[Exit.then,Exit.inBlock,↓reduceIte])
     refine⟨⟨?_,J.drop (List.Sublist.refl _) (fun _ h=>by cases h)⟩,(J.get (S:=Zy ak.heap.size W) cMm).keep (by omega)⟩;exact b2.out
    | false=>
     have aJ:=za (a8.out rfl);go_wp2
     iterate 2 gi_step
     refine Q1 ?_;go_wp2_with (with_reducible first|refine lld J ?_|((first|refine lbx J ?_|refine lal J ?_|refine lbs J ?_);clear J;intro ae w1 J)|(refine zc J ?_;clear J;intro w1 J))
     gi_wp2
     (try simp only[Exit.then,Exit.inBlock,↓reduceIte])
     exact⟨⟨aJ.out,J.drop (List.Sublist.refl _) (fun _ h=>by cases h)⟩,(J.get (S:=Zy ak.heap.size W) cMm).keep (by omega)⟩
   case hstop=>
    rintro D W b8 ⟨hf,J⟩ ab;have an:=J.turnN (r:=D) (o':=.deferred none) (by omega) (fun ⟨_,_,_,a1⟩=>by rw[ab]at a1;cases a1);have aJ:=za hf;clear J hf
    (try simp only[Exit.then,Exit.inBlock,↓reduceIte])
    refine⟨by simp,.inl ⟨_,_,rfl,run_takeDeferred ab,?_⟩⟩;refine⟨_,zao rfl (Ka an rfl cIn (zn.cell J0 rfl)) (Ka an rfl cIn (zn.cell GU rfl)),?_,an.below⟩;rw[aK.out,aJ.out,Bool.false_and]
   case hdone=>
    rintro D W b8 ⟨hf,J⟩ ab;rw[bv.out]at hf;have bx:=za hf;have bV:D<W.heap.size:=zz ab;have bi:=J.defer (by omega) ab;clear J hf ab;have J:=bi;clear bi;have a9:=za (aI.out 0 (Nat.zero_le _));have a7:=za (fun x j (a6:Below w.heap.size w j) (C:zq j x f0)=>aU.out x f0 0 j a6 C (Nat.zero_le _));rw[Nat.zero_mul,Nat.add_zero]at a9;generalize qt f0 (l.getD 0 zC)=cd at aK a7;generalize aw 0=bK at a9 a7;obtain⟨cu,⟨cv,cw,cq⟩,⟨ct,cs,cr⟩⟩:=bK;dsimp only[Pv.v,Pv.cells]at a9 a7;have bZ:((0:Int)<(sn:Int)):=by have:=ax.out;omega
    iterate 3 gi_step
    refine zeS ?_;obtain⟨aS,bE⟩:∃ x,x=W:=⟨_,rfl⟩;subst bE;refine jB [55,56,57,58,59,60] ?_;refine qdv ?_;refine qdn (y4 aS f0) y4.stable J ?_ ?_
    ·intro g w hb J _ q;simp only[aG]at q;simp only[fD];simp only[q]
     go_wp2_with (go_at_call 96;refine(bz.out _).mono ?_;rintro q cp ⟨r,rfl,hG⟩;dsimp only);exact⟨rfl,_,rfl,hG.below,r,rfl,Loc.since hb ((Loc.start _).gotP hG bw.out)⟩
    iterate 2 refine qdv ?_
    refine qdl a9.out ?_;refine' j2 J ?_ ?_;rotate_left
    ·intro g w hb J y q;simp only[aG]at q;have d1:(y4 aS f0) (g 56) w:=yr y 1;obtain⟨r,d1,hG⟩:=d1;clear y;simp only[fD];simp only[q,d1]
     go_wp2_with (go_at_call 100;refine(a7.out r _ J.below (hG.get (S:=fun w=>zq w r f0) List.mem_cons_self)).mono ?_;rintro e cn ⟨rfl,bA⟩;dsimp only);exact⟨rfl,_,rfl,bA,rfl⟩
    refine Kt J ?_;intro g aH hb bj q;simp only[aG]at q;have aA:(y4 aS f0) (g 56) aH:=qye bj 1;obtain⟨cj,aA,-⟩:=aA;clear bj;simp only[fD];simp only[q,aA];clear q aA;replace J:=J.grow hb;clear hb;go_wp2_with (with_reducible first|refine lld J ?_|((first|refine lbx J ?_|refine lal J ?_|refine lbs J ?_);clear J;intro ae w1 J)|(refine zc J ?_;clear J;intro w1 J))
    gi_wp2
    have ab:=J.get (S:=ziy D) cMm;have an:=(J.drop (D':=[]) (List.Sublist.refl _) (fun _ h=>by cases h)).turnN (r:=D) (o':=.deferred none) (by omega) (fun ⟨_,_,_,a1⟩=>by rw[ab]at a1;cases a1);clear J;refine⟨by simp,.inl ⟨_,_,rfl,run_takeDeferred ab,?_⟩⟩;refine⟨_,zao rfl (Ka an rfl cIn (zn.cell J0 rfl)) (Ka an rfl cIn (zn.cell GU rfl)),?_,an.below⟩;rw[aK.out,bx.out,Bool.true_and]
end Go.Proofs.YtplcndmdkabmeaaGreatDoor
