/- The walks over picture.None, Own, Both. What a picture in new memory is. Conditions: pictures of one form, few guesses, few sites. -/
import Derived.Test.YtplcndmdkabmeaaGreatDoorGue
import Derived.Test.YtplcndmdkabmeaaGreatDoorPica
set_option linter.unusedSimpArgs false
set_option linter.unusedVariables false
set_option maxRecDepth 100000
set_option maxHeartbeats 1600000
namespace Go.Proofs.YtplcndmdkabmeaaGreatDoor
open Go.Proofs.Tryz
open Go.RowKit
theorem zfq:jy prog 117:=⟨by kernel_rfl,by kernel_rfl⟩
abbrev qx (f:zm->zm->zm) (d e:Res):Res:=⟨d.null || e.null,f d.span e.span,d.tr || e.tr,d.fa || e.fa,yQ d.l e.l⟩
theorem QL {w j:World}{r:Sl}{R:List zg}{l:List Int}(h:zB 3 1 r.p r.n r.cap (l.map (Value.int .i64)) R) (i:Own w.heap.size j R):zag w j (fun w=>zk w r l):=
 ⟨fun b=>∃ e∈R,e.1=b,fun b ⟨e,g,o⟩=>by subst o;exact⟨(i.at' e g).1,zz (i.at' e g).2⟩,fun C t=>h.ints (B:=w.heap.size) ⟨i.nodup,fun e g=>⟨(i.at' e g).1,by rw[t e.1 ⟨e,g,rfl⟩];exact(i.at' e g).2⟩⟩⟩
theorem zgT (K:FuncId) (f:zm->zm->zm) (he:∀ args w,(callFunc K args).run prog w=.ok (.enter K args) w)
  (hf:∀ (s t:zm) (w:World),Calls prog K #[s.v,t.v] w fun e j=>e=.returned (f s t).v∧Below w.heap.size w j)
  (g h:Gu) (d e:Res) (bd:Nat) (w:World) (ab:zd prog 117 w bd 0 (.func (.func K) #[] #[])) (o:ql w g d) (p:ql w h e) (T:(d.l.length+e.l.length)*8<=140737488351232):
  Calls prog 103 #[g.v,h.v,.pointer (some ⟨bd,0,none⟩)] w fun x j=>∃ r:Sl,x=.returned ((qx f d e).gu r).v∧QO w.heap.size j r (yQ d.l e.l)∧Below w.heap.size w j:=by
 have i:=fun j (i:Below w.heap.size w j)=>Yb K f he hf g h d.l e.l j (o.l.grow i) (p.l.grow i) T
 have C:=o.e;have I:=p.e;have aa:∀ r:Sl,(⟨g.null || h.null,f g.span h.span,g.tr || h.tr,g.fa || h.fa,r⟩:Gu)=(qx f d e).gu r:=fun r=>by rw[C,I]
 simp only[aa]at i;clear aa C I o p T hf he;generalize qx f d e=B at i ⊢;obtain⟨ar,⟨au,aq,ao⟩,av,an,ag⟩:=B;dsimp only[Res.gu]at i ⊢;obtain⟨ay,⟨a0,az,ax⟩,gt,aw,⟨a1,gk,gc⟩⟩:=g;obtain⟨a5,⟨a7,a6,a3⟩,a9,hf,⟨a8,a4,a2⟩⟩:=h
 try dsimp only at i
 generalize yQ d.l e.l=aA at i ⊢;have ad:=za i;have ae:=za ab;clear i ab;have J:=Loc.start w;go_enter func103,ntmps103;go_wp2_with (first|(with_reducible first|refine ldB ae.out J ?_|refine lld J ?_|((first|refine lbx J ?_|refine lal J ?_);clear J;intro ag al J)|(refine zc J ?_;clear J;intro al J))|(go_at_call 104;refine(ad.out _ J.below).mono ?_;rintro e aB ⟨⟨ak,aj,ai⟩,rfl,⟨R,ah,U⟩,P⟩;replace J:=J.gainTail P U;simp only[aX]at J;clear P U;dsimp only));refine rt1 ?_;exact⟨⟨ak,aj,ai⟩,rfl,⟨R,ah,J.ownOf (List.sublist_append_right [_,_,_] _)⟩,J.below⟩
def yO (B:Nat) (a:Bool) (s:zm) (b c:Bool) (l:List Int):Value->World->Prop:=fun v w=>∃ (r:Sl) (g:List zg) (i:Nat),v=.slice (some ⟨i,0,none⟩) 1 1∧zB 3 1 r.p r.n r.cap (l.map (Value.int .i64)) g∧Own B w g∧w.heap[i]? = some (.cells (Gu.cells ⟨a,s,b,c,r⟩).toArray 108 (0,0))
theorem yO.stable {B:Nat}{a:Bool}{s:zm}{b c:Bool}{l:List Int}:∀ v w j,Below w.heap.size w j->yO B a s b c l v w->yO B a s b c l v j:=fun _ _ _ i ⟨r,o,p,t,C,I,g⟩=>⟨r,o,p,t,C,I.grow i,by rw[i.block _ (zz g)];exact g⟩
def j4 (f:zm->zm->zm) (ds es:List Res) (k:Nat):List Res:=(List.range k).map fun g=>qx f (ds.getD g zo) (es.getD g zo)
abbrev qz (f:zm->zm->zm) (ds es:List Res):List Res:=j4 f ds es ds.length
theorem ZE (f:zm->zm->zm) (ds es:List Res) (k:Nat):j4 f ds es (k+1)=j4 f ds es k++[qx f (ds.getD k zo) (es.getD k zo)]:=by
 unfold j4;rw[List.range_succ,List.map_append];rfl
theorem YT (f:zm->zm->zm) (ds es:List Res) (k:Nat):(j4 f ds es k).length=k:=by simp[j4]
theorem zaR (K:FuncId) (f:zm->zm->zm) (bf:∀ args w,(callFunc K args).run prog w=.ok (.enter K args) w)
  (hf:∀ (s t:zm) (w:World),Calls prog K #[s.v,t.v] w fun e aa=>e=.returned (f s t).v∧Below w.heap.size w aa)
  (a b:Sl) (ds es:List Res) (ao:Nat) (w:World) (aH:zd prog 117 w ao 0 (.func (.func K) #[] #[])) (ha:qR w a ds) (hb:qR w b es) (hn:ds.length=es.length) (b8:ds.length<=1000)
  (aI:∀ k,k<ds.length->(ds.getD k zo).l.length<=1000∧(es.getD k zo).l.length<=1000):
  Calls prog 105 #[a.v,b.v,.func (.func 103) #[] #[.pointer (some ⟨ao,0,none⟩)]] w fun x aa=>∃ (r:Sl) (T:List Gu) (R:List zg),x=.returned r.v∧zB 108 7 r.p r.n r.cap (T.flatMap Gu.cells) R∧Loc w aa R [fun w=>zN w T (qz f ds es)]:=by
 obtain⟨aL,aB,ar⟩:=ha.ex;obtain⟨aM,aC,au⟩:=hb.ex;have aE:=ha.n;have aF:=hb.n;obtain⟨bq,bB,az,av⟩:=aB.ex;obtain⟨br,bC,a0,aw⟩:=aC.ex;obtain⟨ap,bp,bo⟩:=a;obtain⟨bu,bt,bs⟩:=b;dsimp only at aE aF az av a0 aw ar au;subst aE aF;have aQ:=za (fun k (ax:k<ds.length) aa (hb:Below w.heap.size w aa)=>zgT K f bf hf ((ds.getD k zo).gu (aL k)) ((es.getD k zo).gu (aM k)) (ds.getD k zo) (es.getD k zo) ao aa (aH.grow hb) (ql.mk' ((ar k ax).grow hb)) (ql.mk' ((au k (by omega)).grow hb)) (by have:=aI k ax;omega));have a3:=za az;have a4:=za a0;have a1:=za av;have a2:=za aw;have ag:=za hn;have b9:es.length<=1000:=by omega
 clear ha hb aB aC ar au az a0 av aw hn aI aH;dsimp only[Sl.v];have J:=Loc.start w;go_enter func105,ntmps105;go_wp2;go_loopw [7,11] (fun aW aV wr=>∃ (k:Nat) (al:Option Addr) (ah:Nat) (ab:List zg) (T:List Gu),k<=ds.length∧aW=.slice al k ah∧aV=.int .i64 k∧zB 108 7 al k ah (T.flatMap Gu.cells) ab∧Loc w wr ab [fun w=>zN w T (j4 f ds es k)]) (fun _ c _=>ds.length - (intOf c).toNat)
 case atStart=>exact⟨0,none,0,[],[],Nat.zero_le _,rfl,rfl,zB.nil,J.pure (fun w=>zN.nil w)⟩
 case round=>
  obtain⟨k,al,ah,ab,T,ax,rfl,rfl,a9,J⟩:=hrel;have a5:=za a9;clear a9;by_cases ak:k<ds.length
  ·obtain rfl:=a3.out (by omega)
   obtain rfl:=a4.out (by have:=ag.out;omega);clear a3 a4;have ad:=zd.agg (P:=prog) zO (a1.out k ak).1 (a1.out k ak).2 rfl;have ae:=zd.agg (P:=prog) zO (a2.out k (by have:=ag.out;omega)).1 (a2.out k (by have:=ag.out;omega)).2 rfl;have hput:=aQ.out k ak;have ay:=ZE f ds es k;generalize a7:qx f (ds.getD k zo) (es.getD k zo)=B at hput ay;have aD:yQ (ds.getD k zo).l (es.getD k zo).l=B.l:=by rw[<- a7]
   rw[aD]at hput;clear a7 aD;have bA:k<es.length:=by have:=ag.out;omega
   generalize ds.getD k zo=d at ad hput;generalize es.getD k zo=e at ae hput;generalize aL k=s at ad hput;generalize aM k=t at ae hput;obtain⟨bz,⟨b0,bx,bw⟩,b1,bv,dl⟩:=d;obtain⟨b5,⟨b6,b4,b3⟩,b7,b2,el⟩:=e;obtain⟨sp,bD,bE⟩:=s;obtain⟨bH,bF,bG⟩:=t;obtain⟨Bn,⟨C,o,Bhi⟩,I,i,U⟩:=B;dsimp only[Res.gu]at ad ae hput;have aR:=za ad;have aS:=za ae;have aP:=za hput;have aO:=za ay;clear ad ae hput ay;obtain⟨af,bk⟩:∃ x,x=wr:=⟨_,rfl⟩;subst bk;go_upto_region 5 with(fail)
   refine zb [14,15,16,17,18,19,20,21,22,23,24,25] ?_
   iterate 5 refine qdv ?_
   refine qdl aR.out ?_
   iterate 3 refine qdv ?_
   refine qdl aS.out ?_;refine qdn (GuR af.heap.size Bn ⟨C,o,Bhi⟩ I i U) GuR.stable J ?_ ?_
   ·intro g w hb J _ q;simp only[aG]at q;simp only[fD];simp only[q]
    go_wp2_with ((with_reducible refine(aP.out _ J.below).mono ?_);rintro e bI ⟨r,rfl,⟨R,bj,bh⟩,be⟩;dsimp only);exact⟨rfl,_,rfl,be,r,R,rfl,bj,bh.mono hb.size⟩
   refine qdn (yO af.heap.size Bn ⟨C,o,Bhi⟩ I i U) yO.stable J ?_ ?_
   ·intro g w hb J V q;have d10:(GuR af.heap.size Bn ⟨C,o,Bhi⟩ I i U) (g 24) w:=yr V 10;obtain⟨aJ,a6,d10,bi,bc⟩:=d10;clear V;simp only[fD];simp only[d10]
    go_wp2_with (fail);exact⟨rfl,_,rfl,(Below.refl _ _).alloc (Nat.le_refl _) _,aJ,a6,_,rfl,bi,bc.grow ((Below.refl _ _).alloc (Nat.le_refl _) _),jo _ _⟩
   refine qy J ?_;intro g aN hb aq q;simp only[aG]at q;have ai:(GuR af.heap.size Bn ⟨C,o,Bhi⟩ I i U) (g 24) aN:=qye aq 10;obtain⟨aJ,a6,ai,-,-⟩:=ai;have aj:(yO af.heap.size Bn ⟨C,o,Bhi⟩ I i U) (g 25) aN:=qye aq 11;obtain⟨aK,bn,aU,aj,aA,a8,bb⟩:=aj;clear aq;simp only[fD];simp only[q,ai,aj];clear q ai aj;replace J:=J.more hb (QL aA a8);clear aA a8;clear hb;go_wp2_with (refine zF (z:=[.bool false,.bool false,.int .i64 0,.int .i64 0,.bool false,.bool false,.slice none 0 0]) (K:=[]) (R:=ab) (news:=Gu.cells ⟨Bn,⟨C,o,Bhi⟩,I,i,aK⟩) a5.out J rfl rfl rfl jC ZP (by decide) rfl (fun _=>⟨⟨aU,0,none⟩,rfl,fun j u bg=>by rw[zG,Nat.zero_add];exact zP bb j bg⟩) rfl (by simp[Value.oneCell']) (by have:maxLen=9223372036854775807:=rfl;omega) (by omega) ?_;clear J;intro bm aY aT bJ bd J;simp only[List.nil_append]at J);go_roundw
   case rel=>
    refine⟨k+1,bm,aY,aT,T++[⟨Bn,⟨C,o,Bhi⟩,I,i,aK⟩],by omega,rfl,by go_num,by simpa using bd,J.both fun w aZ ba=>?_⟩;rw[aO.out];exact ba.append (zN.one (ql.mk' (d:=⟨Bn,⟨C,o,Bhi⟩,I,i,U⟩) aZ))
   case measure=>simp[intOf];omega
  ·obtain rfl:k=ds.length:=by omega
   clear ak;go_wp2;refine rt1 ?_;exact⟨⟨al,ds.length,ah⟩,T,ab,rfl,a5.out,J⟩
inductive jT:List Sl->List (List Gu)->List zg->Prop where
 | nil:jT [] [] []
 | cons {s:Sl} {gl:List Gu} {R:List zg} {rs:List Sl} {gf:List (List Gu)} {Rf:List zg} (h:zB 108 7 s.p s.n s.cap (gl.flatMap Gu.cells) R) (hs:jT rs gf Rf):jT (s::rs) (gl::gf) (R++Rf)
theorem jT.snoc {i:List Sl}{gf:List (List Gu)}{g:List zg}(h:jT i gf g) {s:Sl}{gl:List Gu}{R:List zg}(j:zB 108 7 s.p s.n s.cap (gl.flatMap Gu.cells) R):jT (i++[s]) (gf++[gl]) (g++R):=by
 induction h with
 | nil=>have:=jT.cons j .nil;simpa using this
 | cons h hs ih=>rw[List.append_assoc];exact .cons h ih
theorem jT.len {g:List Sl}{gf:List (List Gu)}{i:List zg}(h:jT g gf i):g.length=gf.length:=by
 induction h with
 | nil=>rfl
 | cons h hs ih=>simp[ih]
structure jj (w:World) (gf:List (List Gu)) (dss:List (List Res)):Prop where
 len:gf.length=dss.length
 at' : ∀ k,k<dss.length->zN w (gf.getD k []) (dss.getD k [])
theorem jj.nil (w:World):jj w [] []:=⟨rfl,fun k g=>absurd g (Nat.not_lt_zero k)⟩
theorem jj.snoc {w:World}{gf:List (List Gu)}{g:List (List Res)}(h:jj w gf g) {gl:List Gu}{ds:List Res}(o : zN w gl ds):jj w (gf++[gl]) (g++[ds]):=by
 refine⟨by simp[h.len],fun k j=>?_⟩;rw[List.length_append]at j;rcases Nat.lt_or_ge k g.length with i|i
 ·rw[QU (by rw[h.len];exact i),QU i]
  exact h.at' k i
 ·have p : k<g.length+1:=by simpa using j
  obtain rfl:k=g.length:=by omega
  rw[yN (by rw[h.len];exact Nat.le_refl _),yN (Nat.le_refl _),h.len,Nat.sub_self];exact o
structure VI (x:Pv) (gv:List Gu) (gf:List (List Gu)) (rs:List Sl) (Rv Rh Rf:List zg):Prop where
 vars:zB 108 7 x.vars.p x.vars.n x.vars.cap (gv.flatMap Gu.cells) Rv
 heads:zB 51 1 x.fields.p x.fields.n x.fields.cap (rs.flatMap Sl.row) Rh
 rows:jT rs gf Rf
abbrev zH (gv:List Gu) (gf:List (List Gu)) (vs:List Res) (fs:List (List Res)):zl:=fun w=>zN w gv vs∧jj w gf fs
theorem Loc.since {w0 w g:World}{R:List zg}{D:List zl}(hb:Below w0.heap.size w0 w) (h:Loc w g R D):Loc w0 g R D:=by
 have i:=((Loc.start w0).grow hb).gave h;rwa [List.nil_append,List.append_nil]at i
def ZF (j:World) (ds:List Res):Value->World->Prop:=fun v w=>∃ (r:Sl) (i:List Gu) (g:List zg),v=r.v∧zB 108 7 r.p r.n r.cap (i.flatMap Gu.cells) g∧Loc j w g [fun w=>zN w i ds]
theorem ZF.stable {i:World}{ds:List Res}:∀ v w g,Below w.heap.size w g->ZF i ds v w->ZF i ds v g:=fun _ _ _ I ⟨r,o,j,p,t,C⟩=>⟨r,o,j,p,t,C.grow I⟩
def yZ (o:World) (ds:List Res):Value->World->Prop:=fun v w=>∃ (r:Sl) (j:List Gu) (g:List zg) (i:Nat),v=.slice (some ⟨i,0,none⟩) 1 1∧zB 108 7 r.p r.n r.cap (j.flatMap Gu.cells) g∧Loc o w g [fun w=>zN w j ds]∧w.heap[i]? = some (.cells (Sl.row r).toArray 51 (0,0))
theorem yZ.stable {o:World}{ds:List Res}:∀ v w j,Below w.heap.size w j->yZ o ds v w->yZ o ds v j:=fun _ _ _ i ⟨r,C,p,t,I,P,R,g⟩=>⟨r,C,p,t,I,P,R.grow i,by rw[i.block _ (zz g)];exact g⟩
theorem ZG {g:Type}(A F H R:List g):(A++((F++R)++H)).Perm ((A++(F++H))++R):=by
 rw[List.append_assoc A,List.append_assoc F H R,List.append_assoc F R H];exact List.Perm.append_left A (List.Perm.append_left F List.perm_append_comm)
structure ju (d:Pd):Prop where
 vars:d.vars.length<=1000
 fields:d.fields.length<=1000
 rows:∀ k,k<d.fields.length->(d.row k).length<=1000
 sites:∀ k,k<d.vars.length->(d.var k).l.length<=1000
 rsites:∀ k j,k<d.fields.length->j<(d.row k).length->(d.field k j).l.length<=1000
structure Zm (d e:Pd):Prop where
 vars:d.vars.length=e.vars.length
 fields:d.fields.length=e.fields.length
 rows:∀ k,k<d.fields.length->(d.row k).length=(e.row k).length
def qB (f:zm->zm->zm) (d e:Pd) (k:Nat):List (List Res):=(List.range k).map fun g=>qz f (d.row g) (e.row g)
theorem Yu (f:zm->zm->zm) (d e:Pd) (k:Nat):qB f d e (k+1)=qB f d e k++[qz f (d.row k) (e.row k)]:=by
 unfold qB;rw[List.range_succ,List.map_append];rfl
def zW (f:zm->zm->zm) (d e:Pd):Pd:=⟨false,qz f d.vars e.vars,qB f d e d.fields.length⟩
theorem XU (K:FuncId) (f:zm->zm->zm) (bb:∀ args w,(callFunc K args).run prog w=.ok (.enter K args) w)
  (hf:∀ (s t:zm) (w:World),Calls prog K #[s.v,t.v] w fun e w'=>e=.returned (f s t).v∧Below w.heap.size w w')
  (x y:Pv) (d e:Pd) (w:World) (ai:zq w x d) (aj:zq w y e) (ba:d.none=false) (bc:e.none=false) (ad:ju d) (a6:ju e) (C:Zm d e):
  Calls prog 59 #[x.v,y.v,.func (.func K) #[] #[]] w fun q w'=>∃ (r:Pv) (ac:List Gu) (p:List (List Gu)) (T:List Sl) (I o i:List zg),q=.returned r.v∧r.none=false∧VI r ac p T I o i∧Loc w w' (I++(i++o)) [zH ac p (zW f d e).vars (zW f d e).fields]:=by
 have ay:=za (fun (a0:Nat) w' (hb:Below w.heap.size w w') hrd=>zaR K f bb hf x.vars y.vars d.vars e.vars a0 w' hrd (ai.vars.grow hb) (aj.vars.grow hb) C.vars ad.vars (fun k hk=>⟨ad.sites k hk,a6.sites k (by rw[<- C.vars];exact hk)⟩));obtain⟨bh,aB,aC⟩:=ai.fields.ex;obtain⟨bi,aD,aE⟩:=aj.fields.ex;have P:=ai.fields.n;have a8:=aj.fields.n;rw[P]at aB aC;rw[a8]at aD aE;have bp:=za (fun k (hk:k<d.fields.length) (a0:Nat) w' (hb:Below w.heap.size w w') hrd=>zaR K f bb hf (bh k) (bi k) (d.row k) (e.row k) a0 w' hrd ((aC k hk).grow hb) ((aE k (by rw[<- C.fields];exact hk)).grow hb) (C.rows k hk) (ad.rows k hk) (fun j ar=>⟨ad.rsites k j hk ar,a6.rsites k j (by rw[<- C.fields];exact hk) (by rw[<- C.rows k hk];exact ar)⟩));obtain⟨bO,bT,a9,a4⟩:=(jR aB).ex;obtain⟨bP,bU,aA,a5⟩:=(jR aD).ex;have aF:=ai.e;have aH:=aj.e;have bd:=C.fields;have bQ:=ad.fields;have bv:=za (fun k=>Yu f d e k);have aM:=za (show (zW f d e).vars=qz f d.vars e.vars from rfl);have aL:=za (show (zW f d e).fields=qB f d e d.fields.length from rfl);have bs:=za (show qB f d e 0=[] from rfl);obtain⟨cd,⟨bH,bI,bE⟩,⟨bG,cc,bF⟩⟩:=x;obtain⟨ch,⟨bM,bN,bJ⟩,⟨bL,cf,bK⟩⟩:=y;dsimp only at P a8 a9 a4 aA a5 aF aH ay;rw[ba]at aF;rw[bc]at aH;subst aF aH P a8;generalize (zW f d e).vars=b1 at aM ⊢;generalize (zW f d e).fields=b0 at aL ⊢;have aJ:=za a9;have aK:=za aA;have bn:=za a4;have bo:=za a5;have ax:=za bd;have bR:e.fields.length<=1000:=by omega
 clear ai aj ba bc ad a6 C aB aC aD aE a9 a4 aA a5 bd;have J:=Loc.start w;go_enter func59,ntmps59;go_step;go_step;go_step
 ((with_reducible refine lbx J ?_);clear J;intro aP aa J)
 ((with_reducible refine lbx J ?_);clear J;intro aQ aa J)
 ((with_reducible refine lbx J ?_);clear J;intro ab aa J)
 ((with_reducible refine lal J ?_);clear J;intro aR aa J)
 go_upto_region 9 with(first|(with_reducible first|refine lld J ?_|(refine lal J ?_;clear J;intro aS aa J)|(refine zc J ?_;clear J;intro aa J))|(go_at_call 105;refine(ay.out ab _ J.below (J.readsG (b:=ab) (Tv:=117) (off:=0) (v:=.func (.func K) #[] #[]) cIn (zn.cell zfq rfl))).mono ?_;rintro q bD ⟨⟨bl,bk,bj⟩,ac,I,rfl,aZ,aV⟩;replace J:=J.gave aV;simp only[aX]at J;clear aV;dsimp only))
 have bw:=za aZ;clear aZ ay;go_wp2_with (with_reducible refine lld J ?_);go_loopw [39] (fun c wr=>∃ (k:Nat) (au:Option Addr) (aq:Nat) (T:List Sl) (p:List (List Gu)) (o i:List zg),k<=d.fields.length∧c=.int .i64 k∧zB 51 1 au k aq (T.flatMap Sl.row) o∧jT T p i∧Loc w wr ((aS,54,[.bool false,.slice bl bk bj,.slice au k aq])::(aR,54,[.bool false,.slice none 0 0,.slice none 0 0])::(ab,117,[.func (.func K) #[] #[]])::(aQ,54,[.bool false,.slice bM bN bJ,.slice bL e.fields.length bK])::(aP,54,[.bool false,.slice bH bI bE,.slice bG d.fields.length bF])::(I++(i++o))) [fun w=>jj w p (qB f d e k),fun w=>zN w ac (qz f d.vars e.vars)]) (fun c _=>d.fields.length - (intOf c).toNat)
 case atStart=>exact⟨0,none,0,[],[],[],[],Nat.zero_le _,rfl,zB.nil,.nil,(J.conv (by simp)).pure (fun w=>by rw[bs.out];exact jj.nil w)⟩
 case round=>
  obtain⟨k,au,aq,T,p,o,i,hk,rfl,aY,aU,J⟩:=hrel;have aN:=za aY;have aI:=za aU;clear aY aU;by_cases a7:k<d.fields.length
  ·obtain rfl:=aJ.out (by omega)
   obtain rfl:=aK.out (by have:=ax.out;omega);clear aJ aK;have ag:=bn.out k a7;have ah:=bo.out k (by have:=ax.out;omega);rw[Nat.mul_one]at ag ah;have bS:k<e.fields.length:=by have:=ax.out;omega
   have ae:=bp.out k a7;have P:=bv.out k;generalize bh k=s at ag ae;generalize bi k=t at ah ae;generalize qz f (d.row k) (e.row k)=ak at ae P;obtain⟨sp,bV,bW⟩:=s;obtain⟨ca,bY,bZ⟩:=t;dsimp only[Sl.v]at ag ah ae;have bt:=za ag;have bu:=za ah;have bq:=za ae;have br:=za P;clear ag ah ae P;obtain⟨al,bB⟩:∃ x,x=wr:=⟨_,rfl⟩;subst bB;go_upto_region 12 with(fail)
   refine zb [42,43,44,45,46,47,48,49,50,51,52,53,54,55,56] ?_
   iterate 6 refine qdv ?_
   refine qdl bt.out ?_
   iterate 4 refine qdv ?_
   refine qdl bu.out ?_;refine qdv ?_;refine qdn (ZF al ak) ZF.stable J ?_ ?_
   ·intro g w hb J _ q;simp only[aG]at q;simp only[fD];simp only[q]
    go_wp2_with (go_at_call 105;refine(bq.out ab _ J.below (J.readsG (b:=ab) (Tv:=117) (off:=0) (v:=.func (.func K) #[] #[]) cIn (zn.cell zfq rfl))).mono ?_;rintro q bD ⟨r,b3,R,rfl,bA,be⟩;dsimp only);exact⟨rfl,_,rfl,be.below,r,b3,R,rfl,bA,Loc.since hb be⟩
   refine qdn (yZ al ak) yZ.stable J ?_ ?_
   ·intro g w hb J V q;have d13:(ZF al ak) (g 55) w:=yr V 13;obtain⟨bf,aT,aO,d13,b9,b6⟩:=d13;clear V;simp only[fD];simp only[d13]
    go_wp2_with (fail);exact⟨rfl,_,rfl,(Below.refl _ _).alloc (Nat.le_refl _) _,bf,aT,aO,_,rfl,b9,b6.grow ((Below.refl _ _).alloc (Nat.le_refl _) _),jo _ _⟩
   refine qy J ?_;intro g bm hb a3 q;simp only[aG]at q;have an:(ZF al ak) (g 55) bm:=qye a3 13;obtain⟨bf,aT,aO,an,-,-⟩:=an;have ao:(yZ al ak) (g 56) bm:=qye a3 14;obtain⟨bg,b4,az,bz,ao,b8,aW,b5⟩:=ao;clear a3;simp only[fD];simp only[q,an,ao];clear q an ao;replace J:=J.gave aW;simp only[aX]at J;clear aW;clear hb;replace J:=J.perm ((((((ZG I i o az).cons _).cons _).cons _).cons _).cons _);go_wp2_with (first|(refine zF (z:=[.slice none 0 0]) (K:=(aS,_,_)::(aR,_,_)::(ab,_,_)::(aQ,_,_)::(aP,_,_)::(I++(i++az))) (R:=o) (news:=Sl.row bg) aN.out J (by simp only[List.cons_append,List.append_assoc];rfl) rfl rfl UK zcG (by decide) rfl (fun _=>⟨⟨bz,0,none⟩,rfl,fun j u ar=>by rw[zG,Nat.zero_add];exact zP b5 j ar⟩) rfl (by simp[Value.oneCell']) (by have:maxLen=9223372036854775807:=rfl;omega) (by omega) ?_;clear J;intro bC b2 bx cb b7 J;simp only[List.cons_append,List.append_assoc]at J)|(with_reducible refine zc J ?_;clear J;intro aa J));go_roundw
   case rel=>
    refine⟨k+1,bC,b2,T++[bg],p++[b4],bx,i++az,by omega,by go_num,by simpa using b7,aI.out.snoc b8,(J.conv (by simp only[List.append_assoc])).both fun w a1 a2=>?_⟩;rw[br.out];exact a2.snoc a1
   case measure=>simp[intOf];omega
  ·obtain rfl:k=d.fields.length:=by omega
   clear a7;go_wp2_with (with_reducible first|refine lld J ?_|(refine zc J ?_;clear J;intro aa J));refine rt1 ?_;exact⟨⟨false,⟨bl,bk,bj⟩,⟨au,d.fields.length,aq⟩⟩,ac,p,T,I,o,i,rfl,rfl,⟨bw.out,aN.out,aI.out⟩,(J.both (U:=zH ac p b1 b0) fun w a1 a2=>⟨by rw[aM.out];exact a2,by rw[aL.out];exact a1⟩).drop (List.sublist_append_right [_,_,_,_,_] _) (fun _ h=>h)⟩
theorem jT.is {B:Nat}{w:World}{j:List Sl}{gf:List (List Gu)}{o:List zg}(h:jT j gf o):Own B w o->∀ g:List (List Res),jj w gf g->∀ k,k<j.length->qR w (j.getD k zi) (g.getD k []):=by
 induction h with
 | nil=>intro _ g _ k p;exact absurd p (Nat.not_lt_zero k)
 | @cons s gl R j gf o h hs ih=>
  intro t g i k p;cases g with
  | nil=>exact absurd i.len (by simp)
  | cons f g=>
   cases k with
   | zero=>exact(i.at' 0 (by simp)).row h (t.sub (List.sublist_append_left _ _))
   | succ k=>
    exact ih (t.sub (List.sublist_append_right _ _)) g ⟨by simpa using i.len,fun I C=>by simpa using i.at' (I+1) (by simpa using C)⟩ k (by simpa using p)
theorem VI.is {B:Nat}{w:World}{x:Pv}{o:List Gu}{gf:List (List Gu)}{I:List Sl}{Rv j i:List zg}{d:Pd}(h:VI x o gf I Rv j i) (g:Own B w (Rv++(i++j))) (R:zH o gf d.vars d.fields w) (T:x.none=d.none) (ad:d.vars.length+d.fields.length<=9223372036854775807):zq w x d:=by
 obtain⟨P,p⟩:=R;have C:=P.row h.vars (g.sub (List.sublist_append_left _ _));obtain⟨t,aa⟩:=h.heads.listC (f:=Sl.row) (fun _=>rfl) zi (by decide) (g.sub ((List.sublist_append_right _ _).trans (List.sublist_append_right _ _)));have ac:=h.rows.is (g.sub ((List.sublist_append_left _ _).trans (List.sublist_append_right _ _))) d.fields p;have ab:x.fields.n=d.fields.length:=by rw[t,h.rows.len,p.len]
 refine⟨T,C,⟨ab,h.heads.max,fun k=>I.getD k zi,aa,fun k U=>ac k (by rw[<- t];exact U)⟩,?_⟩;have ae:x.vars.n=d.vars.length:=C.n;omega
def yd (w w' : World) (r:Pv) (d:Pd):Prop:=∃ (p:List Gu) (o:List (List Gu)) (t:List Sl) (j i g:List zg),r.none=d.none∧VI r p o t j i g∧Loc w w' (j++(g++i)) [zH p o d.vars d.fields]
theorem yd.below {w w' : World}{r:Pv}{d:Pd}(h:yd w w' r d):Below w.heap.size w w':=by
 obtain⟨_,_,_,_,_,_,_,_,h⟩:=h;exact h.below
theorem yd.grow {w w' g:World}{r:Pv}{d:Pd}(h:yd w w' r d) (hb:Below w'.heap.size w' g):yd w g r d:=by
 obtain⟨t,p,R,o,j,i,C,I,P⟩:=h;exact⟨t,p,R,o,j,i,C,I,P.grow hb⟩
theorem yd.since {w0 w w' : World}{r:Pv}{d:Pd}(hb:Below w0.heap.size w0 w) (h:yd w w' r d):yd w0 w' r d:=by
 obtain⟨p,o,P,j,i,g,t,C,I⟩:=h;exact⟨p,o,P,j,i,g,t,C,Loc.since hb I⟩
theorem yd.is {w w' : World}{r:Pv}{d:Pd}(h:yd w w' r d) (o:d.vars.length+d.fields.length<=9223372036854775807):zq w' r d:=by
 obtain⟨P,I,R,C,t,p,i,j,g⟩:=h;exact j.is g.own (g.get List.mem_cons_self) i o
theorem Loc.gotP {w0 w o:World}{L:List zg}{D:List zl}{r:Pv}{d:Pd}(h:Loc w0 w L D) (g:yd w o r d) (I:d.vars.length+d.fields.length<=9223372036854775807):Loc w0 o L ((fun w=>zq w r d)::D):=by
 obtain⟨ac,ab,ad,aa,U,T,p,t,i⟩:=g;have C:=h.gave i;refine C.facts fun ae P R=>t.is (B:=w.heap.size) ⟨i.nodup,fun e j=>⟨i.ids e j,P e j⟩⟩ R p I
theorem XV (w:World):Calls prog 101 #[] w fun q g=>q=.returned (Pv.v ⟨true,zi,zi⟩)∧Below w.heap.size w g:=by
 have J:=Loc.start w;go_enter func101,ntmps101;go_wp2_with (first|((with_reducible refine lal J ?_);clear J;intro j i J)|(refine zc J ?_;clear J;intro i J));refine rt1 ?_;exact⟨rfl,J.below⟩
theorem yd.none {w w' : World}(hb:Below w.heap.size w w'):yd w w' ⟨true,zi,zi⟩ zC:=
 ⟨[],[],[],[],[],[],rfl,⟨zB.nil,zB.nil,.nil⟩,((Loc.start w).grow hb).pure (fun w=>⟨zN.nil w,jj.nil w⟩)⟩
theorem Zm.self (d:Pd):Zm d d:=⟨rfl,rfl,fun _ _=>rfl⟩
def jM (f:zm->zm->zm) (d e:Pd):Pd:=if d.none=true then (if e.none=true then zC else zW both e e) else if e.none=true then zW both d d else zW f d e
theorem VJ (x:Pv) (d:Pd) (w:World) (j:zq w x d) (i:ju d) (hn:d.none=false):
  Calls prog 102 #[x.v] w fun q g=>∃ r:Pv,q=.returned r.v∧yd w g r (zW both d d):=by
 have t:=za (fun g (o:Below w.heap.size w g)=>XU 60 both YP Qy x x d d g (j.grow o) (j.grow o) hn hn i i (Zm.self d));clear j i hn;obtain⟨ar,⟨au,av,al⟩,⟨aq,ao,an⟩⟩:=x;have J:=Loc.start w;go_enter func102,ntmps102;go_wp2_with (first|(with_reducible first|refine lld J ?_|((first|refine lbx J ?_|refine lal J ?_);clear J;intro aj ai J)|(refine zc J ?_;clear J;intro ai J))|(go_at_call 59;refine(t.out _ J.below).mono ?_;rintro q ak ⟨⟨ad,⟨ah,ag,af⟩,⟨T,fn,R⟩⟩,aa,U,ae,P,I,C,rfl,ac,ab,p⟩;replace J:=J.gave p;simp only[aX]at J;clear p;dsimp only));refine rt1 ?_;exact⟨⟨ad,⟨ah,ag,af⟩,⟨T,fn,R⟩⟩,rfl,aa,U,ae,P,I,C,ac,ab,J.drop (List.sublist_append_right [_,_] _) (fun _ h=>h)⟩
theorem Ua (K:FuncId) (f:zm->zm->zm) (aF:∀ args w,(callFunc K args).run prog w=.ok (.enter K args) w)
  (hf:∀ (s t:zm) (w:World),Calls prog K #[s.v,t.v] w fun e o=>e=.returned (f s t).v∧Below w.heap.size w o)
  (x y:Pv) (d e:Pd) (w:World) (C:zq w x d) (I:zq w y e) (ac:ju d) (ad:ju e) (ag:d.none=false->e.none=false->Zm d e):
  Calls prog 59 #[x.v,y.v,.func (.func K) #[] #[]] w fun q o=>∃ r:Pv,q=.returned r.v∧yd w o r (jM f d e):=by
 have p:=C.e;have hye:=I.e;cases i:d.none with
 | false=>
  cases g:e.none with
  | false=>
   have j:jM f d e=zW f d e:=by simp[jM,i,g]
   rw[j];refine(XU K f aF hf x y d e w C I i g ac ad (ag i g)).mono ?_;rintro q o ⟨r,ab,aa,af,U,T,R,aB,aC,aD,aE⟩;exact⟨r,aB,ab,aa,af,U,T,R,aC,aD,aE⟩
  | true=>
   have j:jM f d e=zW both d d:=by simp[jM,i,g]
   rw[j];have ah:=za (fun o (al:Below w.heap.size w o)=>VJ x d o (C.grow al) ac i);rw[i]at p;rw[g]at hye;clear C I ac ad ag i g j;obtain⟨a1,⟨a2,a3,ax⟩,⟨a0,az,ay⟩⟩:=x;obtain⟨a8,⟨a9,aA,a4⟩,⟨a7,a6,a5⟩⟩:=y;dsimp only at p hye;subst p hye;have J:=Loc.start w;go_enter func59,ntmps59;go_wp2_with (first|(with_reducible first|refine lld J ?_|((first|refine lbx J ?_|refine lal J ?_);clear J;intro av P J)|(refine zc J ?_;clear J;intro P J))|(go_at_call 102;refine(ah.out _ J.below).mono ?_;rintro q aH ⟨⟨ao,⟨au,ar,aq⟩,⟨aj,fn,ai⟩⟩,rfl,ab,aa,af,U,T,R,an,ak,ae⟩;replace J:=J.gave ae;simp only[aX]at J;clear ae;dsimp only));refine rt1 ?_;exact⟨⟨ao,⟨au,ar,aq⟩,⟨aj,fn,ai⟩⟩,rfl,ab,aa,af,U,T,R,an,ak,J.drop (List.sublist_append_right [_,_,_,_] _) (fun _ h=>h)⟩
 | true=>
  cases g:e.none with
  | false=>
   have j:jM f d e=zW both e e:=by simp[jM,i,g]
   rw[j];have ah:=za (fun o (al:Below w.heap.size w o)=>VJ y e o (I.grow al) ad g);rw[i]at p;rw[g]at hye;clear C I ac ad ag i g j;obtain⟨a1,⟨a2,a3,ax⟩,⟨a0,az,ay⟩⟩:=x;obtain⟨a8,⟨a9,aA,a4⟩,⟨a7,a6,a5⟩⟩:=y;dsimp only at p hye;subst p hye;have J:=Loc.start w;go_enter func59,ntmps59;go_wp2_with (first|(with_reducible first|refine lld J ?_|((first|refine lbx J ?_|refine lal J ?_);clear J;intro av P J)|(refine zc J ?_;clear J;intro P J))|(go_at_call 102;refine(ah.out _ J.below).mono ?_;rintro q aH ⟨⟨ao,⟨au,ar,aq⟩,⟨aj,fn,ai⟩⟩,rfl,ab,aa,af,U,T,R,an,ak,ae⟩;replace J:=J.gave ae;simp only[aX]at J;clear ae;dsimp only));refine rt1 ?_;exact⟨⟨ao,⟨au,ar,aq⟩,⟨aj,fn,ai⟩⟩,rfl,ab,aa,af,U,T,R,an,ak,J.drop (List.sublist_append_right [_,_,_,_] _) (fun _ h=>h)⟩
  | true=>
   have j:jM f d e=zC:=by simp[jM,i,g]
   rw[j];rw[i]at p;rw[g]at hye;clear C I ac ad ag i g j;obtain⟨a1,⟨a2,a3,ax⟩,⟨a0,az,ay⟩⟩:=x;obtain⟨a8,⟨a9,aA,a4⟩,⟨a7,a6,a5⟩⟩:=y;dsimp only at p hye;subst p hye;have J:=Loc.start w;go_enter func59,ntmps59;go_wp2_with (first|(with_reducible first|refine lld J ?_|((first|refine lbx J ?_|refine lal J ?_);clear J;intro av P J)|(refine zc J ?_;clear J;intro P J))|(go_at_call 101;refine cg J (XV _) ?_;clear J;intro P J;dsimp only));refine rt1 ?_;exact⟨_,rfl,yd.none J.below⟩
end Go.Proofs.YtplcndmdkabmeaaGreatDoor
