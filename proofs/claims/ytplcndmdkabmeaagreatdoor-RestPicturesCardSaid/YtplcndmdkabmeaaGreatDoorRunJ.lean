/- The walks over the machine's field and create. Conditions: the indexes that a right program and a right run have. -/
import Derived.Test.YtplcndmdkabmeaaGreatDoorRunI
set_option linter.unusedSimpArgs false
set_option linter.unusedVariables false
set_option maxRecDepth 100000
set_option maxHeartbeats 4000000
namespace Go.Proofs.YtplcndmdkabmeaaGreatDoor
open Go.Proofs.Tryz
open Go.RowKit
theorem zbj (w0:World) (bm:Nat) (p:Pg) (ins:Sl) (s:Rs) (i:Ins) (a:Nat) (w:World) (h:zY w0 bm p ins s w) (hi:i.a=a) (ha:a<s.vars.length) (h3:(s.val a).kind≠3):
  Calls prog 93 #[.pointer (some ⟨bm,0,none⟩),i.v] w fun e ar=>e=.returned (.pointer none)∧zY w0 bm p ins { s with ending:=2 } ar:=by
 obtain⟨r,aq,av,ag,af,ae,j,J⟩:=h;have al:=j.vars.flatlen jc (by decide);obtain⟨ah,I,aa,rfl,an,ak⟩:=j.vars.block (by omega);simp only[aX]at J;have U:=j.vars.elem jc dV (k:=a) (by omega);obtain⟨ac,o⟩:∃ x,x=s.val a:=⟨_,rfl⟩;have t:=za (show zn prog 77 I (a*2) ac.v by rw[o];exact zn.agg jk U rfl);rw[<- o]at h3;have ad:=za j;have aj:a<r.vars.n:=by omega
 obtain⟨kind,to,az,a0,num,goto⟩:=i;dsimp only at hi;subst hi;clear j U al an ak ha o;obtain⟨a2,⟨a9,a8,a7⟩,a6,a4,a5,a3⟩:=r;dsimp only at aa aj;subst aa;obtain⟨ao,a1⟩:=ac;have ay:(ao != 3)=true:=by simpa using h3
 clear h3;go_enter func93,ntmps93;go_upto_region 1 with(with_reducible refine lbx J ?_;clear J;intro ax au J)
 refine zb [6,7,8,9,10,11,12,13,14,5] ?_
 iterate 8 refine qdv ?_
 refine yT t.out ?_;refine qdp ?_;refine qy J ?_;intro g aA T j q;simp only[aG]at q;obtain⟨aw,ab,R,C⟩:=qye j 9;clear j;simp only[fD];simp only[q,R];clear q R;replace J:=J.gain T ab C;clear ab C;clear T;clear t;go_wp2_with (first|(with_reducible first|refine lld J ?_|(refine zc J ?_;clear J;intro au J))|(go_at_call 48;refine(Qt w0 bm p ins s 2 _ ⟨_,aq,[(ah,77,I)],ag,af,ae,ad.out,J.drop (by repeat (first|exact List.Sublist.refl _|apply List.Sublist.cons)) (fun _ h=>h)⟩).mono ?_;rintro e aB ⟨rfl,ai⟩;dsimp only));go_ret;exact⟨rfl,ai⟩
theorem Gd (w0:World) (bm j gt gf:Nat) (p:Pg) (ins:Sl) (af:Int) (I ak C aj fn an:Nat) (ah:Int) (ai:Sl) (ag:Int) (t o U:List Value) (Rest:List zg) (i:Ins) (a k f:Nat) (w:World)
  (J:Loc w0 w ((bm,100,q8 p ⟨af,⟨some ⟨j,0,none⟩,I,ak⟩,⟨some ⟨gt,0,none⟩,C,aj⟩,ah,ai,ag⟩ ins)::(j,77,t)::(gt,79,o)::(gf,77,U)::Rest) [])
  (hi:i.a=a∧i.n=f) (ha:a<I) (hk:k<C) (hf:f<fn) (ab:zn prog 77 t (a*2) (Vl.v ⟨3,k⟩)) (hT:zn prog 42 o (k*2+1) (.slice (some ⟨gf,0,none⟩) fn an)):
  Calls prog 93 #[.pointer (some ⟨bm,0,none⟩),i.v] w fun e ao=>e=.returned (.pointer (some ⟨gf,f*2,none⟩))∧
   Loc w0 ao ((bm,100,q8 p ⟨af,⟨some ⟨j,0,none⟩,I,ak⟩,⟨some ⟨gt,0,none⟩,C,aj⟩,ah,ai,ag⟩ ins)::(j,77,t)::(gt,79,o)::(gf,77,U)::Rest) []:=by
 have R:=za ab;have al:=za hT;obtain⟨kind,to,av,aw,num,goto⟩:=i;dsimp only at hi;obtain⟨rfl,rfl⟩:=hi;clear ab hT;go_enter func93,ntmps93;go_upto_region 1 with(with_reducible refine lbx J ?_;clear J;intro au aq J)
 refine zb [6,7,8,9,10,11,12,13,14,5] ?_
 iterate 8 refine qdv ?_
 refine yT R.out ?_;refine qdp ?_;refine qy J ?_;intro g ax ad ac q;simp only[aG]at q;obtain⟨ar,ae,aa,T⟩:=qye ac 9;clear ac;simp only[fD];simp only[q,aa];clear q aa;replace J:=J.gain ad ae T;clear ae T;clear ad;clear R;go_upto_region 5 with(with_reducible first|refine lld J ?_|(refine zc J ?_;clear J;intro aq J))
 refine zb [20,21,22,23,24,25,26,27,28,29,30,31,32,4] ?_
 iterate 9 refine qdv ?_
 refine yT al.out ?_
 iterate 4 refine qdv ?_
 refine dnd J ?_;clear J;intro ay J;simp only[zr,sTa,sTb];go_wp2;go_ret;exact⟨rfl,J.drop (by repeat (first|exact List.Sublist.refl _|apply List.Sublist.cons)) (fun _ h=>h)⟩
section
variable {P : Program} {ops : Array Oper} {Q : Exit -> Act -> World -> Prop} {a : Act} {w0 w : World} {rest : List Oper} {L : List zg} {D : List zl}
 {d:Option Tmp} {ty:TypeId} {pos:String} {after:Array Edge} {g:Option (Nat × Bool)}
theorem zbk {T E:TypeId}{z:List Value}{bytes n:Nat}{l c:Operand}{U R:IntKind}(I:Region.wanted ⟨d,.makeSlice T l c,ty,pos,after,g⟩ (yielded ops a.tmps)=true) (hT:q5 P T E z) (t:yL P E bytes)
  (C:a.eval l=.int U (n:Int)) (hc:a.eval c=.int R (n:Int)) (hb:bytes*n<=281474976710656) (o:n<=9223372036854775807)
  (h:∀ p cap j i,zB E z.length p n cap (List.replicate n z).flatten j->Own w.heap.size i j->Below w.heap.size w i->wpList P ops Q rest (a.put d (.slice p n cap)) i):wpList P ops Q (⟨d,.makeSlice T l c,ty,pos,after,g⟩::rest) a w:=by
 refine Kb (Loc.start w) I hT t C hc hb o ?_;intro b i J;refine h _ _ _ i (zB.full ?_ o) J.own J.below;simp[List.length_flatten]
end
def yJ (t m:Nat) (s:Rs):Rs:=
 if s.things.length=100 then { s with ending:=5 } else Rs.set { s with things:=s.things++[(s.at',List.replicate m dV)] } t ⟨3,s.things.length⟩
theorem zbl (w0:World) (bm:Nat) (p:Pg) (ins:Sl) (s:Rs) (i:Ins) (t m:Nat) (w:World) (h:zY w0 bm p ins s w) (hi:i.to=t) (ht:t<s.vars.length) (a8:p.fields=m∧m<=3) (aq:s.things.length<=100) (a6:0<=s.at'∧s.at'<=1000000):
  Calls prog 92 #[.pointer (some ⟨bm,0,none⟩),i.v] w fun e aJ=>e=.returned (.tuple #[])∧zY w0 bm p ins (yJ t m s) aJ:=by
 obtain⟨r,aI,C,ac,o,T,U,J⟩:=h;have aC:∀ X:List zg,(C++(o++(X++ac))).Perm (C++(ac++(o++X))):=fun X=>
  List.Perm.append_left C (by rw[<- List.append_assoc o X ac];exact List.perm_append_comm)
 replace J:=J.perm ((aC T).cons _);have aB:=U.things.flatlen zez (by decide);have a7:=U.fields.len;have af:=za U;have aw:=za (And.intro ht a6);have aA:maxLen=9223372036854775807:=rfl;obtain⟨kind,to,bz,b0,num,goto⟩:=i;dsimp only at hi;subst hi;obtain⟨aH,b2,aD,aF,aE⟩:=p;dsimp only at a8;obtain⟨rfl,a9⟩:=a8;have al:r.things.n=s.things.length:=aB.trans a7;clear aB aC U ht a6;obtain⟨I,br,⟨b4,ae,b3⟩,bp,bq,bo⟩:=r;dsimp only at al;by_cases ak:s.things.length=100
 ·obtain rfl:ae=100:=by omega
  have ay:yJ t m s={ s with ending:=5 }:=by rw[yJ,if_pos ak]
  have aK:=za ay;clear ay ak al aq;go_enter func92,ntmps92;go_wp2_with (first|(with_reducible first|refine lld J ?_|(refine lbx J ?_;clear J;intro ag au J))|(go_at_call 48;refine(Qt w0 bm ⟨aH,m,aD,aF,aE⟩ ins s 5 _ ⟨_,aI,C,ac,o,T,af.out,(J.drop (List.sublist_cons_self _ _) (fun _ h=>h)).perm (List.Perm.cons _ (List.Perm.append_left C (by rw[<- List.append_assoc o T ac];exact List.perm_append_comm)))⟩).mono ?_;rintro e bs ⟨rfl,ao⟩;dsimp only))
  (try simp only[Exit.inBlock,Exit.then]);(first|refine qv rfl rfl ?_|refine qw rfl rfl ?_)
  exact⟨rfl,by rw[aK.out];exact ao⟩
 ·have bx:((ae:Int)==100)=false:=by simp;omega
  have HN:=za (And.intro al (And.intro aq (And.intro a9 (And.intro aA ak))));clear al aq a9 aA ak a7;go_enter func92,ntmps92;go_upto_region 3 with(with_reducible first|refine lld J ?_|(refine lbx J ?_;clear J;intro ag au J))
  obtain⟨ab,bi⟩:∃ x,x=au:=⟨_,rfl⟩;subst bi;refine zb [13,14,15,16,17,18,19,20,21,22,23,24,25,26,27,28,29,30,31] ?_
  iterate 16 refine qdv ?_
  refine qdn (yi ab.heap.size m (List.replicate m dV)) yi.stable J ?_ ?_
  ·intro g w aa J _ q;simp only[aG]at q;simp only[fD];simp only[q]
   go_wp2_with (refine zbk (n:=m) rfl Zi V5 rfl rfl (by have:=HN.out.2.2.1;omega) (by have:=HN.out.2.2.1;omega) ?_;intro b1 bu bt aJ a3 bb ba);exact⟨rfl,_,rfl,ba,_,_,_,rfl,by rw[zbp]at a3;exact a3,bb.mono aa.size⟩
  refine qdn (y3 ab.heap.size m I (List.replicate m dV)) y3.stable J ?_ ?_
  ·intro g w aa J v q;simp only[aG]at q;have d16:(yi ab.heap.size m (List.replicate m dV)) (g 29) w:=yr v 16;obtain⟨bl,aQ,aN,d16,be,bc⟩:=d16;clear v;simp only[fD];simp only[q,d16]
   go_wp2_with (fail);exact⟨rfl,_,rfl,Below.refl _ _,_,_,_,rfl,be,bc⟩
  refine qdn (ZU ab.heap.size m I (List.replicate m dV)) ZU.stable J ?_ ?_
  ·intro g w aa J v q;have d17:(y3 ab.heap.size m I (List.replicate m dV)) (g 30) w:=yr v 17;obtain⟨bn,aR,aO,d17,bf,bd⟩:=d17;clear v;simp only[fD];simp only[d17]
   go_wp2_with (fail);exact⟨rfl,_,rfl,(Below.refl _ _).alloc (Nat.le_refl _) _,_,_,_,_,rfl,bf,bd.grow ((Below.refl _ _).alloc (Nat.le_refl _) _),jo _ _⟩
  refine de1 0 J ?_ ?_
  ·(refine yj rfl rfl ?_;intro g w aa v;(try simp[zD,List.filter_cons,Region.binds,j7,RAt]at v);simp only[fD];(try simp only[v]);exact⟨_,.inl ⟨rfl,fun w=>(by go_simp<;>(try (split<;>(rename_i bh;simp[bh,cnd]))))⟩,rfl⟩)
  intro g av aa U q;simp only[aG]at q;have ah:(yi ab.heap.size m (List.replicate m dV)) (g 29) av:=qye U 16;obtain⟨bl,aQ,aN,ah,-,-⟩:=ah;have ai:(y3 ab.heap.size m I (List.replicate m dV)) (g 30) av:=qye U 17;obtain⟨bn,aR,aO,ai,-,-⟩:=ai;have aj:(ZU ab.heap.size m I (List.replicate m dV)) (g 31) av:=qye U 18;obtain⟨ar,an,Rn,aP,aj,a5,a1,az⟩:=aj;have a0:=J.gainMid (K:=(ag,_,_)::(bm,_,_)::(C++(o++T))) (R:=ac) (by simp only[List.cons_append,List.append_assoc];rfl) aa a1;clear a1;clear U;simp only[fD];simp only[q,ah,ai,aj];clear q ah ai aj;replace J:=J.grow aa;clear aa;replace J:=a0;clear a0;go_wp2_with (first|(refine zF (K:=(ag,_,_)::(bm,_,_)::(C++(o++(T++Rn)))) (R:=ac) (news:=[.int .i64 I,.slice ar m an]) af.out.things J (by simp only[List.cons_append,List.append_assoc];rfl) rfl rfl GX zcF (by decide) rfl (fun _=>⟨⟨aP,0,none⟩,rfl,fun j u bg=>by rw[zG,Nat.zero_add];exact zP az j bg⟩) rfl (by simp[Value.oneCell']) (by have:=HN.out.1;have:=HN.out.2.1;have:=HN.out.2.2.2.1;omega) (by have:=HN.out.1;have:=HN.out.2.1;omega) ?_;clear J;intro bk aS ad b5 a4 J;simp only[List.cons_append,List.append_assoc]at J)|(with_reducible refine zc J ?_;clear J;intro au J));replace J:=(J.perm (L':=(ag,_,_)::(bm,_,_)::(C++(ad++(o++(T++Rn))))) (List.Perm.cons _ (List.Perm.cons _ (List.Perm.append_left C (by rw[<- List.append_assoc T Rn ad,<- List.append_assoc o (T++Rn) ad];exact List.perm_append_comm)))));have a2:yE ⟨I,br,⟨bk,ae+1,aS⟩,bp,bq,bo⟩ { s with things:=s.things++[(s.at',List.replicate m dV)] } (aI++[⟨I,⟨ar,m,an⟩⟩]) C ad o (T++Rn):=by
   obtain⟨aT,bv,aU,aV,ax,aY,aZ⟩:=af.out;refine⟨aT,by simpa [Ge] using a4,aU,?_,ax,aY,aZ⟩;have:=yh.snoc (t:=⟨I,⟨ar,m,an⟩⟩) aV a5;have aW : I=s.at':=ax;rw[<- aW];exact this
  have aL:=za a2;have aM:=za (show yJ t m s=Rs.set { s with things:=s.things++[(s.at',List.replicate m dV)] } t ⟨3,ae⟩ by rw[yJ,if_neg HN.out.2.2.2.2,HN.out.1]);have bw:ae<=100:=by have:=HN.out.1;have:=HN.out.2.1;omega
  clear a2 a4 a5 az af HN;go_upto_region 4 with(fail)
  refine zb [36,37,38,39,40,41,42,43,44,45,46] ?_
  iterate 11 refine qdv ?_
  refine dnd J ?_;clear J;intro b6 J;simp only[zr,sTa,sTb];go_wp2_with (first|fail|(go_at_call 88;refine(j6 w0 bm ⟨aH,m,aD,aF,aE⟩ ins _ t ⟨_,_⟩ _ ⟨_,_,C,ad,o,_,aL.out,J.drop (List.sublist_cons_self _ _) (fun _ h=>h)⟩ aw.out.1 aw.out.2).mono ?_;rintro e bs ⟨rfl,ao⟩;dsimp only))
  (try simp only[Exit.inBlock,Exit.then]);(first|refine qv rfl rfl ?_|refine qw rfl rfl ?_)
  refine⟨rfl,?_⟩;rw[aM.out];exact ao
end Go.Proofs.YtplcndmdkabmeaaGreatDoor
