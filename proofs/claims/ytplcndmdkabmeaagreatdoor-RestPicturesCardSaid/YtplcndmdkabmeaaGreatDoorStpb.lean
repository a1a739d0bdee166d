/- The walk over the stepper's step, kind by kind. Conditions: the picture is right and of runs; the instruction is right. -/
import Derived.Test.YtplcndmdkabmeaaGreatDoorStpa
import Derived.Test.YtplcndmdkabmeaaGreatDoorReady
set_option linter.unusedSimpArgs false
set_option linter.unusedVariables false
set_option maxRecDepth 100000
set_option maxHeartbeats 4000000
namespace Go.Proofs.YtplcndmdkabmeaaGreatDoor
open Go.Proofs.Tryz
open Go.RowKit
theorem XH (w0:World) (R:Nat) (i:Ins) (at' : Nat) (x:Pv) (d:Pd) (es:List (Int × Pd)) (wr ae:Bool) (A:List zg) (D:List zl) (w:World) (a:Nat) (h:Stp w0 R i at' x es wr ae A D w) (C:zq w0 x d) (hi:i.a=a) (ha:a<d.vars.length):
  Calls prog 200 #[.pointer (some ⟨R,0,none⟩)] w fun e al=>∃ I:Sl,e=.returned I.v∧zk w0 I (d.var a).l∧Stp w0 R i at' x es (jJ (d.var a)) ae A D al:=by
 obtain⟨s,ar,aq,j,J⟩:=h;obtain⟨az,ah,ag⟩:=C.vars.ex;have aw:=C.vars.n;have av:=C.vars.m;obtain⟨a4,aI,ai,U⟩:=ah.ex;have aj:=ai (by omega);have p:=zd.agg (P:=prog) zO (U a (by omega)).1 (U a (by omega)).2 rfl;have o:=ag a (by omega);have au:a<x.vars.n:=by omega
 have g:=za (show jJ (d.var a)=((d.var a).null || (d.var a).tr || (d.var a).fa || !(d.var a).span.none) from rfl);dsimp only[Pd.var]at g p o ⊢;generalize d.vars.getD a zo=T at g p o ⊢;generalize az a=I at p o;generalize jJ T=aK at g ⊢;have ao:=za j;have an:=za o;have aa:=za p;clear j C ah ag aw ai U p o ha;obtain⟨a9,⟨aA,a8,a6⟩,gt,a5,a7⟩:=T;obtain⟨a2,a1,a0⟩:=I;obtain⟨aE,aH,aB,aC,aF,aD⟩:=i;obtain⟨aP,⟨aQ,aR,aL⟩,⟨aO,aN,aM⟩⟩:=x;obtain⟨sp,ay,ax⟩:=s;dsimp only at hi aj au av g;subst hi aj;dsimp only[Res.gu]at aa;go_enter func200,ntmps200;go_upto_region 1 with(with_reducible first|refine lld J ?_|((first|refine lbx J ?_|refine lal J ?_|refine lbs J ?_);clear J;intro ab t J)|(refine zc J ?_;clear J;intro t J))
 refine zb [4,5,6,7,8,9,10,11,12,13,14,15,3] ?_
 iterate 11 refine qdv ?_
 refine qdl aa.out ?_;refine qdp ?_;refine qy J ?_;intro T al af j q;simp only[aG]at q;obtain⟨a3,ak,ad,ac⟩:=qye j 12;clear j;simp only[fD];simp only[q,ad];clear q ad;replace J:=J.gain af ak ac;clear ak ac;clear af;go_upto_region 2 with(with_reducible first|refine lld J ?_|((first|refine lbx J ?_|refine lal J ?_|refine lbs J ?_);clear J;intro ab t J)|(refine zc J ?_;clear J;intro t J))
 refine zx [16,17,18,19,20,21,22,23,24,25,26,27,28,29,30,31,32,33,34] ?_
 iterate 19 refine qda ?_
 refine dns J ?_;clear J;intro aJ J;simp only[zr,sTa,sTb];go_wp2_with (with_reducible first|refine lld J ?_|((first|refine lbx J ?_|refine lal J ?_|refine lbs J ?_);clear J;intro ab t J)|(refine zc J ?_;clear J;intro t J))
 (try simp only[Exit.inBlock,Exit.then]);refine rt1 ?_
 refine⟨⟨a2,a1,a0⟩,rfl,an.out,⟨sp,ay,ax⟩,ar,aq,ao.out,(J.drop (.cons _ (List.Sublist.refl _)) (fun _ h=>h)).conv ?_⟩;rw[g.out]
theorem Vo (d:Pd) (n:Nat) (l:List Int) (k:Nat) (hk:k<l.length):qQ d n (l.take (k+1))=qx both (qQ d n (l.take k)) (d.field (l.getD k 0).toNat n):=by
 unfold qQ;rw[yR l k 0 hk,List.foldl_append];rfl
structure U4 (d:Pd) (n:Nat) (l:List Int):Prop where
 at' : ∀ k,k<l.length->∃ m:Nat,l.getD k 0=m∧m<d.fields.length∧n<(d.row m).length
 few:l.length<=1000
 rows:∀ m,m<d.fields.length->n<(d.row m).length->(d.field m n).l.length<=1000
theorem zgu (w0:World) (bs:Nat) (i:Ins) (at' : Nat) (x:Pv) (d:Pd) (es:List (Int × Pd)) (wr C:Bool) (A:List zg) (D:List zl) (w:World) (a n k:Nat) (h:Stp w0 bs i at' x es wr C A D w) (ok:qV w0 x d) (hi:i.a=a) (ha:a<d.vars.length) (bg:i.n=n) (aB:i.to=k) (hk:k<d.vars.length)
  (a0:U4 d n (d.var a).l) (bi:∀ k,k<=(d.var a).l.length->(qQ d n ((d.var a).l.take k)).l.length<=1000) (ca:es.length<=10) (bS:at'<=1000000):
  Calls prog 156 #[.pointer (some ⟨bs,0,none⟩)] w fun e aJ=>e=.returned (.tuple #[])∧Stp w0 bs i at' x (es++jK d at' k (qQ d n (d.var a).l)) (jJ (d.var a)) C A D aJ:=by
 obtain⟨s,aw,au,ad,J⟩:=h;have bu:=fun (aa:Nat) (o:World) (T:Stp w0 bs i at' x es wr C ((aa,108,qn.cells)::A) D o)=>XH w0 bs i at' x d es wr C _ D o a T ok.x hi ha
 have bt:=fun (o:World) (g:Gu) (aQ:List zg) (a5:List zl) (T:Stp w0 bs i at' x es (jJ (d.var a)) C aQ a5 o) (bV:(fun w=>ql w g (qQ d n (d.var a).l))∈a5)=>JS w0 bs i at' x d es (jJ (d.var a)) C aQ a5 o k g (qQ d n (d.var a).l) T ok aB hk bV ca bS
 obtain⟨bv,bj,bh⟩:=ok.x.fields.ex;have bf:=ok.x.fields.n;have bU:=ok.x.fields.m;obtain⟨aY,of,bl,a9⟩:=bj.ex;have T:=fun m (c5:m<d.fields.length) (ay:n<(d.row m).length)=>show ∃ (r:Sl) (ac ai:Nat) (t:Sl),r.p=some ⟨ac,ai,none⟩∧n<r.n∧r.n<=9223372036854775807∧zd prog 51 w0 aY (of+m) r.v∧zd prog 108 w0 ac (ai+n*7) ((d.field m n).gu t).v∧zk w0 t (d.field m n).l from by
  have a8:=bh m (by omega);obtain⟨ct,bZ,bW⟩:=a8.ex;obtain⟨ac,ai,cc,bd⟩:=bZ.ex;have af:(bv m).n=(d.row m).length:=a8.n;have ax:=a8.m;exact⟨bv m,ac,ai,ct n,cc (by rw[af];omega),by rw[af];exact ay,ax,KQ (a9 m (by omega)).1 (a9 m (by omega)).2,zd.agg (P:=prog) zO (bd n (by rw[af];exact ay)).1 (bd n (by rw[af];exact ay)).2 rfl,bW n (by rw[af];exact ay)⟩
 have bm:0<d.fields.length->x.fields.p=some ⟨aY,of,none⟩:=fun h=>bl (by omega)
 have aW:=za bu;have aU:=za bt;have b1:=za T;have a6:=za bm;have b6:=za bi;have bE:=za a0.at';have bC:=za a0.rows;have c4:=a0.few;have b5:=za (fun k hk=>Vo d n (d.var a).l k hk);have b3:=za (show qQ d n ((d.var a).l.take 0)=Kk from rfl);have b4:=za (show qQ d n ((d.var a).l.take (d.var a).l.length)=qQ d n (d.var a).l by rw[List.take_length]);have aT:=za ad;clear bu bt T bm bi a0 ad bh bj bl a9 ok ha hk;dsimp only[Pd.var]at *;generalize jJ (d.vars.getD a zo)=bz at *;generalize (d.vars.getD a zo).l=l at *;obtain⟨aI,c8,c6,aF,c7,aH⟩:=i;obtain⟨aN,⟨aO,aP,aK⟩,⟨aM,cF,aL⟩⟩:=x;obtain⟨sp,a3,a2⟩:=s;dsimp only at hi bg aB bf bU a6;subst hi bg aB bf;go_enter func156,ntmps156;go_upto_region 1 with(first|(with_reducible first|(refine lal J ?_;clear J;intro aa o J)|refine lld J ?_|((first|refine lbx J ?_|refine lal J ?_|refine lbs J ?_);clear J;intro a7 o J)|(refine zc J ?_;clear J;intro o J))|(go_at_call 136;refine cg J (ja _) ?_;clear J;intro o J;dsimp only))
 have ab:Stp w0 bs ⟨aI,k,a,aF,n,aH⟩ at' ⟨aN,⟨aO,aP,aK⟩,⟨aM,d.fields.length,aL⟩⟩ es wr C ((aa,108,qn.cells)::A) D o:=⟨⟨sp,a3,a2⟩,aw,au,aT.out,J.perm (List.Perm.swap _ _ _)⟩;have aV:=za (aW.out aa o ab);clear ab J aW;go_wp2_with (go_at_call 200;refine aV.out.mono ?_;rintro e bx ⟨⟨cE,cu,cD⟩,rfl,a1,ab⟩;clear aV;dsimp only[Sl.v]);obtain⟨⟨sp,a3,a2⟩,aw,au,bb,J⟩:=ab;have b8:=za bb;have cm:cu=l.length:=a1.n;subst cm;obtain⟨cw,c9,bo,be⟩:=a1.at'.ex;have aS:=za bo;have aR:=za be;have cl:=a1.m;dsimp only at cl;clear bb a1 bo be aT;go_loopw [9] (fun c wr=>∃ (j:Nat) (g:Gu),j<=l.length∧c=.int .i64 j∧Loc w0 wr ((aa,108,g.cells)::(bs,153,stC ⟨aI,k,a,aF,n,aH⟩ at' ⟨aN,⟨aO,aP,aK⟩,⟨aM,d.fields.length,aL⟩⟩ ⟨sp,a3,a2⟩ bz C)::(A++au)) ((fun w=>ql w g (qQ d n (l.take j)))::(fun w=>j8 w aw es)::D)) (fun c _=>l.length - (intOf c).toNat)
 case atStart=>exact⟨0,qn,Nat.zero_le _,rfl,(J.perm (List.Perm.swap _ _ _)).pure (fun w=>by rw[b3.out];exact⟨rfl,zk.nil w⟩)⟩
 case round=>
  obtain⟨j,g,bY,rfl,J⟩:=hrel;by_cases ae:j<l.length
  ·obtain⟨m,aC,ax,aD⟩:=bE.out j ae
   obtain⟨r,ac,ai,t,br,ch,cj,aE,ah,hr6⟩:=b1.out m ax aD;have ck:=bC.out m ax aD;have az:=zd.cell (P:=prog) y2 (aR.out j ae).1 ((aR.out j ae).2 0 _ rfl);simp only[Nat.mul_one,Nat.add_zero]at az;rw[aC]at az;have bn:=aS.out (by show 0<l.length;omega);have cd:=a6.out (by omega);dsimp only at bn;subst bn cd;clear aS a6;have aA:=J.get (S:=fun w=>ql w g (qQ d n (l.take j))) List.mem_cons_self;have ag:=b5.out j ae;rw[aC]at ag;have hbo:=fun bw (U:Below wr.heap.size wr bw)=>Yb 60 both YP Qy g ((d.field m n).gu t) (qQ d n (l.take j)).l (d.field m n).l bw (aA.l.grow U) (hr6.grow (J.below.trans (U.mono J.below.size))) (by have:=b6.out j bY;omega)
   have bp:∀ r,(⟨g.null || (d.field m n).null,both g.span (d.field m n).span,g.tr || (d.field m n).tr,g.fa || (d.field m n).fa,r⟩:Gu)=(qx both (qQ d n (l.take j)) (d.field m n)).gu r:=fun r=>by rw[aA.e]
   have bq:yQ (qQ d n (l.take j)).l (d.field m n).l=(qx both (qQ d n (l.take j)) (d.field m n)).l:=rfl;dsimp only[Res.gu]at hbo;simp only[bp]at hbo;rw[bq]at hbo;have bk:((m:Int)).toNat=m:=rfl;rw[bk]at ag;clear bp bq aA ck hr6 bk;generalize bP:qx both (qQ d n (l.take j)) (d.field m n)=B at hbo ag;clear bP;dsimp only[Pd.field,Pd.row]at ah hbo;generalize (d.fields.getD m []).getD n zo=bI at ah hbo;obtain⟨cC,cB,cA⟩:=r;obtain⟨t1,t2,t3⟩:=t;obtain⟨c1,⟨c2,c0,cy⟩,c3,cx,cz⟩:=bI;obtain⟨ao,⟨aq,an,al⟩,ar,ak,a4⟩:=B;dsimp only[Res.gu,Sl.v]at br ch cj aE ah hbo;subst br;obtain⟨bM,⟨bO,bL,bK⟩,gt,bJ,⟨bN,gk,gc⟩⟩:=g;have bB:=za az;have b9:=za aE;have bA:=za ah;have b2:=za hbo;have b7:=za ag;clear az aE ah hbo ag aC aD;obtain⟨b0,cn⟩:∃ x,x=wr:=⟨_,rfl⟩;subst cn;go_upto_region 4 with(with_reducible first|refine ldB bB.out J ?_|refine lld J ?_|((first|refine lbx J ?_|refine lal J ?_|refine lbs J ?_);clear J;intro a7 o J)|(refine zc J ?_;clear J;intro o J))
   refine zb [13,14,15,16,17,18,19,20,21,22,23,24,25,26,27,28,29] ?_
   iterate 8 refine qdv ?_
   refine qdl b9.out ?_
   iterate 6 refine qdv ?_
   refine qdl bA.out ?_;refine qdn (GuR b0.heap.size ao ⟨aq,an,al⟩ ar ak a4) GuR.stable J ?_ ?_
   ·intro g w U J _ q;simp only[aG]at q;simp only[fD];simp only[q]
    go_wp2_with (go_at_call 104;refine(b2.out _ U).mono ?_;rintro e bx ⟨r,rfl,⟨R,cf,cb⟩,bT⟩;dsimp only);exact⟨rfl,_,rfl,bT,r,R,rfl,cf,cb.mono U.size⟩
   refine qy J ?_;intro g aJ U ad q;simp only[aG]at q;have av:(GuR b0.heap.size ao ⟨aq,an,al⟩ ar ak a4) (g 29) aJ:=qye ad 16;obtain⟨⟨cp,cq,cr⟩,cv,av,bc,ba⟩:=av;clear ad;simp only[fD];simp only[q,av];clear q av;replace J:=J.more U (QL bc ba);clear bc ba;clear U;go_wp2_with (with_reducible first|refine lld J ?_|((first|refine lbx J ?_|refine lal J ?_|refine lbs J ?_);clear J;intro a7 o J)|(refine zc J ?_;clear J;intro o J));go_roundw
   case rel=>
    refine⟨j+1,⟨ao,⟨aq,an,al⟩,ar,ak,⟨cp,cq,cr⟩⟩,by omega,by go_num,J.both fun w T _=>?_⟩;rw[b7.out];exact ql.mk' (d:=⟨ao,⟨aq,an,al⟩,ar,ak,a4⟩) T
   case measure=>simp[intOf];omega
  ·obtain rfl:j=l.length:=by omega
   clear ae;rw[b4.out]at J;have aZ:Stp w0 bs ⟨aI,k,a,aF,n,aH⟩ at' ⟨aN,⟨aO,aP,aK⟩,⟨aM,d.fields.length,aL⟩⟩ es bz C ((aa,108,g.cells)::A) ((fun w=>ql w g (qQ d n l))::D) wr:=⟨⟨sp,a3,a2⟩,aw,au,b8.out,(J.perm (List.Perm.swap _ _ _)).drop (List.Sublist.refl _) (fun S I=>by
    rcases List.mem_cons.1 I with rfl|I
    ·exact List.mem_cons_of_mem _ List.mem_cons_self
    ·rcases List.mem_cons.1 I with rfl|I
     ·exact List.mem_cons_self
     ·exact List.mem_cons_of_mem _ (List.mem_cons_of_mem _ I))⟩
   have bD:=za (aU.out wr g _ _ aZ List.mem_cons_self);clear aZ aU;obtain⟨bM,⟨bO,bL,bK⟩,gt,bJ,⟨bN,gk,gc⟩⟩:=g;go_wp2_with (first|(go_at_call 153;refine bD.out.mono ?_;rintro e bx ⟨rfl,ab⟩;dsimp only)|(with_reducible first|refine lld J ?_|((first|refine lbx J ?_|refine lal J ?_|refine lbs J ?_);clear J;intro a7 o J)|(refine zc J ?_;clear J;intro o J)))
   (try simp only[Exit.inBlock,Exit.then]);(first|refine qv rfl rfl ?_|refine qw rfl rfl ?_)
   obtain⟨cs,bH,bG,bR,bQ⟩:=ab;exact⟨rfl,cs,bH,bG,bR,bQ.drop (.cons_cons _ (.cons _ (List.Sublist.refl _))) (fun S I=>by
    rcases List.mem_cons.1 I with rfl|I
    ·exact List.mem_cons_self
    ·exact List.mem_cons_of_mem _ (List.mem_cons_of_mem _ I))⟩
theorem Loc.facts1' {w0 w:World}{L:List zg}{D:List zl}{S U:zl}(h:Loc w0 w L (S::D)) (o:∀ w,S w->U w):Loc w0 w L (U::D):=by
 have j:=h.drop (List.Sublist.refl _) (D':=S::S::D) (fun V g=>by
  rcases List.mem_cons.1 g with rfl|g
  ·exact List.mem_cons_self
  ·exact g)
 exact j.both (fun w i _=>o w i)
theorem zgv:∀ args w,(callFunc 198 args).run prog w=.ok (.enter 198 args) w:=fun args w=>by kernel_rfl
theorem XI (H V:zg) (R A i g N:List zg):(A++(([V]++((i++(R++g))++[H]))++N)).Perm (H::(R++(V::(A++(i++(g++N)))))):=by
 have I:A++(([V]++((i++(R++g))++[H]))++N)=A++(V::(i++(R++(g++(H::N))))):=by simp
 rw[I];refine List.perm_middle.trans ?_;have P:(A++(i++(R++(g++(H::N))))).Perm (H::(R++(A++(i++(g++N))))):=by
  have j:(g++(H::N)).Perm (H::(g++N)):=List.perm_middle;have o:(R++(g++(H::N))).Perm (H::(R++(g++N))):=(j.append_left R).trans List.perm_middle;have p:(i++(R++(g++(H::N)))).Perm (H::(i++(R++(g++N)))):=(o.append_left i).trans List.perm_middle;have t:(A++(i++(R++(g++(H::N))))).Perm (H::(A++(i++(R++(g++N))))):=(p.append_left A).trans List.perm_middle;refine t.trans (List.Perm.cons _ ?_);have C:(i++(R++(g++N))).Perm (R++(i++(g++N))):=List.perm_append_comm_assoc _ _ _;exact(C.append_left A).trans (List.perm_append_comm_assoc _ _ _)
 exact(P.cons V).trans ((List.Perm.swap _ _ _).trans (List.Perm.cons _ List.perm_middle.symm))
def jh (ds:List Res) (j:Nat):List Res:=(ds.take j).map (fun g=>{ g with null:=true })++ds.drop j
theorem Vp (ds:List Res):jh ds ds.length=ds.map fun g=>{ g with null:=true }:=by simp[jh]
theorem Vq (ds:List Res) {j:Nat}(g:j<=ds.length):(jh ds j).length=ds.length:=by simp[jh];omega
theorem XJ (ds:List Res) {j:Nat}(i:j<ds.length):(jh ds j).getD j zo=ds.getD j zo:=by
 unfold jh;rw[yN (by simp;omega)];have:j - ((ds.take j).map (fun g:Res=>{ g with null:=true })).length=0:=by simp;omega
 rw[this];simp[List.getD_eq_getElem?_getD]
theorem Uz (ds:List Res) {j:Nat} (g:j<ds.length):(jh ds j).set j { ds.getD j zo with null:=true }=jh ds (j+1):=by
 unfold jh;have o:((ds.take j).map (fun i:Res=>{ i with null:=true })).length=j:=by simp;omega
 rw[List.set_append_right _ _ (by omega),o,Nat.sub_self,yR ds j zo g,List.map_append,List.append_assoc];congr 1;rw[List.drop_eq_getElem_cons g,List.set_cons_zero,List.getD_eq_getElem?_getD,List.getElem?_eq_getElem g];rfl
theorem Yn {g:List Value}{k:Nat}{a b:Value}{l:List Value}(h:(g.drop k).take (l.length+1)=a::l):zj g k [b]=zj g k (b::l):=by
 have i:g.drop k=a::(l++g.drop (k+(l.length+1))):=by
  conv=>lhs;rw[<- List.take_append_drop (l.length+1) (g.drop k),h,List.drop_drop]
  rfl
 have j:g.drop (k+1)=l++g.drop (k+(l.length+1)):=by
  rw[<- List.drop_drop,i];rfl
 unfold zj;simp only[List.length_cons,List.length_nil,Nat.zero_add];rw[j];simp
theorem Gt (w0:World) (C an:Nat) (i:Ins) (at' : Nat) (x:Pv) (wr aJ:Bool) (A:List zg) (D:List zl) (d:Pd) (k:Nat) (hi:i.to=k) (hk:k<d.vars.length) (a8:at' < d.fields.length) (bN:(d.row at').length<=1000):
  Vr w0 C i at' x wr aJ ((an,151,[.pointer (some ⟨C,0,none⟩)])::A) D 198 [.pointer (some ⟨an,0,none⟩)] d (K5 d at' k):=by
 intro aU r s N aB w b4 bj bu;obtain⟨a6,t,aA,bL,bK,bJ,o,J⟩:=bu;have a1:=J.get (S:=zH a6 t d.vars d.fields) List.mem_cons_self;have b2:=o.vars.flatlen jb (by decide);have bz:=a1.1.len;obtain⟨aa,ay,be,rfl,aM,a9⟩:=o.vars.block (by omega);have b1:=o.vars.fits;have b0:k<r.vars.n:=by omega
 have ar:=fun T=>o.vars.put jb zI (k:=k) (by omega) T
 have bb:r.fields.n=d.fields.length:=by
  have ah:=o.heads.flatlen (f:=Sl.row) (es:=1) (fun _=>rfl) (by decide);rw[ah,o.rows.len,a1.2.len]
 obtain⟨al,ao,bf,rfl,-,-⟩:=o.heads.block (by omega);have aZ:=o.heads.at1 (k:=at') (by omega);obtain⟨av,R,aw,rfl,a7,bi⟩:=o.rows.get at' (by rw[o.rows.len,a1.2.len];exact a8);have bc:=a1.2.at' at' a8;have bk:=a7.flatlen jb (by decide);have aL:(aA.getD at' zi).n=(d.row at').length:=bk.trans bc.len;have aS:=za (fun T:Gu=>show k*7+T.cells.length<=ay.length by show k*7+7<=_;rw[a9];omega);have aE:=za (And.intro o.heads ar);have aF:=za bi;have a3:=za a7;have a2:=za (show zn prog 51 ao at' (aA.getD at' zi).v from zn.cell jZ aZ);have bd:=a7.max;have aW:Loc w0 w ((aU,54,r.cells)::(C,153,stC i at' x s wr aJ)::(an,151,[.pointer (some ⟨C,0,none⟩)])::(al,51,ao)::(aa,108,ay)::(R++(A++(av++(aw++N))))) (zH a6 t d.vars d.fields::aB):=
  J.perm (((((XI (al,51,ao) (aa,108,ay) R A av aw N).trans (List.perm_middle.cons _)).cons _).cons _).cons _).symm
 replace J:=aW;have bx:=o.heads.max;clear aW o ar b2 bz aM a9 b1 a1 b4 bi a7 aZ bk bc;have aP:=za (fun g (ai:g<(d.row at').length)=>And.intro (Uz (d.row at') ai) (XJ (d.row at') ai));have aD:=za (show K5 d at' k=⟨d.none,d.vars.set k (Yf at'),d.fields.set at' (jh (d.row at') (d.row at').length)⟩ by rw[Vp];rfl);have aQ:=za (fun g (ai:g<=(d.row at').length)=>Vq (d.row at') ai);have bn:=za (show jh (d.row at') 0=d.fields.getD at' [] by simp[jh,Pd.row]);generalize aA.getD at' zi=row at a3 aF a2 aL bd;generalize d.row at'=I at *;generalize K5 d at' k=d2 at aD ⊢;obtain⟨bP,⟨bR,bG,bF⟩,⟨bM,fn,bq⟩⟩:=r;obtain⟨bE,bQ,bD⟩:=row;obtain⟨bB,bO,b8,b9,bC,bA⟩:=i;dsimp only at be bf bb bx hi b0 bj aL bd;dsimp only[Sl.v]at a2;subst be bf hi bj bb aL;go_enter func198,ntmps198;have bg:=J.readsG (b:=an) (Tv:=151) (off:=0) (v:=.pointer (some ⟨C,0,none⟩)) cIn (zn.cell jm rfl);have bh:=J.readsG (b:=C) (Tv:=3) (off:=6) (v:=.int .i64 at') cIn (zn.cell y2 rfl);have bp:=za (fun aN (hb:Below w.heap.size w aN)=>zay an C at' aN (bg.grow hb) (bh.grow hb));clear bg bh;obtain⟨bm,b5⟩:∃ x,x=w:=⟨_,rfl⟩;subst b5;go_upto_region 0 with(fail)
 refine zb [4,5,6,7,8,9,10,11,12,13,14,15] ?_
 iterate 4 refine qdv ?_
 refine yz jm ?_
 iterate 5 refine qdv ?_
 refine qdn (ze9 bm at') ze9.stable J ?_ ?_
 ·intro T w hb J _ q;simp only[aG]at q;simp only[fD];simp only[q]
  go_wp2_with (go_at_call 196;refine(bp.out _ hb).mono ?_;rintro e bS ⟨br,rfl,a0⟩;dsimp only);exact⟨rfl,_,rfl,a0.below,br,rfl,Loc.since hb a0⟩
 refine qdv ?_;refine qy J ?_;intro T bH hb aY q;simp only[aG]at q;have a5:(ze9 bm at') (T 14) bH:=qye aY 10;obtain⟨⟨ae,⟨ag,ad,ac⟩,gt,ab,⟨af,gk,gc⟩⟩,a5,a0⟩:=a5;have aV:=J;have bv:=hb;clear aY;simp only[fD];simp only[q,a5];clear q a5;replace J:=J.grow hb;clear hb;clear J;have J:=aV.gave a0;clear aV bv a0;simp only[List.append_nil,aX]at J;go_upto_region 1 with(first|(refine zR (b:=aa) (off:=k*7) (vs:=Gu.cells ⟨ae,⟨ag,ad,ac⟩,gt,ab,⟨af,gk,gc⟩⟩) (cs':=zj ay (k*7) (Gu.cells ⟨ae,⟨ag,ad,ac⟩,gt,ab,⟨af,gk,gc⟩⟩)) J rfl rfl cIn rfl zO.sz rfl (aS.out ⟨ae,⟨ag,ad,ac⟩,gt,ab,⟨af,gk,gc⟩⟩) rfl ?_;clear J;intro p J)|(with_reducible first|refine lld J ?_|((first|refine lbx J ?_|refine lal J ?_|refine lbs J ?_);clear J;intro a4 p J)|(refine zc J ?_;clear J;intro p J)))
 have au:=za (aE.out.2 ⟨ae,⟨ag,ad,ac⟩,gt,ab,⟨af,gk,gc⟩⟩);have aC:=za aE.out.1;clear aE;dsimp only at au aC;replace J:=J.both (U:=zH (a6.set k ⟨ae,⟨ag,ad,ac⟩,gt,ab,⟨af,gk,gc⟩⟩) t (d.vars.set k (Yf at')) d.fields) (fun w ah az=>⟨az.1.set hk ah,az.2⟩);generalize zj ay (k*7) (Gu.cells ⟨ae,⟨ag,ad,ac⟩,gt,ab,⟨af,gk,gc⟩⟩)=aI at J au;generalize a6.set k ⟨ae,⟨ag,ad,ac⟩,gt,ab,⟨af,gk,gc⟩⟩=aq at J au;replace J:=(J.drop (List.Sublist.refl _) (D':=zH aq t (d.vars.set k (Yf at')) d.fields::zH aq t (d.vars.set k (Yf at')) d.fields::zH aq t (d.vars.set k (Yf at')) d.fields::aB) (fun S P=>by
  simp only[List.mem_cons]at P ⊢;rcases P with h|h|h|h
  ·exact .inl h
  ·exact .inl h
  ·exact .inl h
  ·exact .inr h)).both (U:=fun w=>zN w (t.getD at' []) (jh I 0)) (fun w ah _=>by rw[bn.out];exact ah.2.at' at' a8)
 generalize t.getD at' []=bs at J a3;clear aS;obtain⟨bT,b6⟩:∃ x,x=p:=⟨_,rfl⟩;subst b6;refine zb [16,17,18,19,20,21,22,23,24,25,26,27] ?_
 iterate 4 refine qdv ?_
 refine yz jm ?_
 iterate 4 refine qdv ?_
 refine yT a2.out ?_
 iterate 2 refine qdv ?_
 refine dnd J ?_;clear J;intro p J;simp only[zr,sTa,sTb];go_wp2_with (with_reducible first|refine lld J ?_|((first|refine lbx J ?_|refine lal J ?_|refine lbs J ?_);clear J;intro a4 p J)|(refine zc J ?_;clear J;intro p J));go_loopw [27] (fun c bI=>∃ (g:Nat) (j:List Gu) (ak : List zg),g<=I.length∧c=.int .i64 g∧zB 108 7 bE I.length bD (j.flatMap Gu.cells) ak∧Loc w0 bI ((aU,54,[.bool false,.slice (some ⟨aa,0,none⟩) bG bF,.slice (some ⟨al,0,none⟩) d.fields.length bq])::(C,153,stC ⟨bB,k,b8,b9,bC,bA⟩ at' x s wr aJ)::(an,151,[.pointer (some ⟨C,0,none⟩)])::(al,51,ao)::(aa,108,aI)::(ak++(A++(av++(aw++N))))) ((fun w=>zN w j (jh I g))::zH aq t (d.vars.set k (Yf at')) d.fields::aB)) (fun c _=>I.length - (intOf c).toNat)
 case atStart=>exact⟨0,bs,R,Nat.zero_le _,rfl,a3.out,J⟩
 case round=>
  obtain⟨g,j,ak,ai,rfl,P,J⟩:=hrel;by_cases aj:g<I.length
  ·obtain⟨aT,ax,b3,rfl,aM,a9⟩:=P.block (by omega)
   have ba:=P.elem jb zI (k:=g) aj;have ar:=P.put jb zI (k:=g) aj { j.getD g zI with null:=true };have bl:zj ax (g*7) [.bool true]=zj ax (g*7) (Gu.cells { j.getD g zI with null:=true }):=Yn ba;rw[<- bl]at ar;have bw:=P.fits;have bo:=za (show g*7+1<=ax.length by omega);have aR:=za ar;have aO:=za (fun w (h:zN w j (jh I g))=>show zN w (j.set g { j.getD g zI with null:=true }) (jh I (g+1)) by
    rw[<- (aP.out g aj).1];have aK:=h.at' g (by rw[aQ.out g ai];exact aj);rw[(aP.out g aj).2]at aK;exact h.set (by rw[aQ.out g ai];exact aj) ⟨congrArg (fun T:Gu=>{ T with null:=true }) aK.e,aK.l⟩)
   clear ba ar bl aM a9 bw P au aC aF a3 aD;generalize j.set g { j.getD g zI with null:=true }=bt at aR aO;subst b3;simp only[aX]at J;obtain⟨bU,b7⟩:∃ x,x=wr:=⟨_,rfl⟩;subst b7;go_upto_region 4 with(with_reducible first|refine lld J ?_|((first|refine lbx J ?_|refine lal J ?_|refine lbs J ?_);clear J;intro a4 p J)|(refine zc J ?_;clear J;intro p J))
   refine zb [30,31,32,33,34,35,36,37,38,39,40,41,42] ?_
   iterate 4 refine qdv ?_
   refine yz jm ?_
   iterate 4 refine qdv ?_
   refine yT a2.out ?_
   iterate 3 refine qdv ?_
   refine dnd J ?_;clear J;intro p J;simp only[zr,sTa,sTb];go_wp2_with (first|(refine zR (b:=aT) (off:=g*7) (vs:=[.bool true]) (cs':=zj ax (g*7) [.bool true]) J rfl rfl cIn rfl J0.sz rfl bo.out rfl ?_;clear J;intro aN J)|(with_reducible first|refine lld J ?_|((first|refine lbx J ?_|refine lal J ?_|refine lbs J ?_);clear J;intro a4 p J)|(refine zc J ?_;clear J;intro p J)));go_roundw
   case rel=>exact⟨g+1,bt,[(aT,108,zj ax (g*7) [.bool true])],by omega,by go_num,aR.out,J.facts1' aO.out⟩
   case measure=>simp[intOf];omega
  ·obtain rfl:g=I.length:=by omega
   clear aj;go_wp2_with (with_reducible first|refine lld J ?_|((first|refine lbx J ?_|refine lal J ?_|refine lbs J ?_);clear J;intro a4 p J)|(refine zc J ?_;clear J;intro p J))
   (try simp only[Exit.inBlock,Exit.then]);(first|refine qv rfl rfl ?_|refine qw rfl rfl ?_)
   refine⟨rfl,aq,t.set at' j,aA,[(aa,108,aI)],[(al,51,ao)],av++(ak++aw),⟨au.out,aC.out,aF.out j ak P⟩,?_⟩;exact(J.perm (((((XI (al,51,ao) (aa,108,aI) ak A av aw N).trans (List.perm_middle.cons _)).cons _).cons _).cons _)).both (U:=zH aq (t.set at' j) d2.vars d2.fields) (fun w ah az=>by
    rw[aD.out];exact⟨az.1,az.2.set a8 ah⟩)
theorem Stp.drop1 {w0:World}{g:Nat}{i:Ins}{at' : Nat}{x:Pv}{es:List (Int × Pd)}{wr j:Bool}{A:List zg}{U:zg}{D:List zl}{w:World}(h:Stp w0 g i at' x es wr j (U::A) D w):Stp w0 g i at' x es wr j A D w:=by
 obtain⟨s,p,o,t,J⟩:=h;exact⟨s,p,o,t,J.drop (.cons_cons _ (.cons _ (List.Sublist.refl _))) (fun _ h=>h)⟩
theorem Stp.push1 {w0:World}{o:Nat}{i:Ins}{at' : Nat}{x:Pv}{wr t:Bool}{A:List zg}{U:zg}{D:List zl}{w:World}{s:Sl}{j:List EdV}{g:List zg}{es:List (Int × Pd)}(C:zB 75 4 s.p s.n s.cap (j.flatMap EdV.cells) g)
  (J:Loc w0 w (U::(o,153,stC i at' x s wr t)::(A++g)) ((fun w=>j8 w j es)::D)):Stp w0 o i at' x es wr t (U::A) D w:=
 ⟨s,j,g,C,J.perm (List.Perm.swap _ _ _)⟩
theorem zbQ (w0:World) (g:Nat) (i:Ins) (at' : Nat) (x:Pv) (d:Pd) (es:List (Int × Pd)) (wr p:Bool) (A:List zg) (D:List zl) (w:World) (k:Nat)
  (h:Stp w0 g i at' x es wr p A D w) (ok:qV w0 x d) (hi:i.to=k) (hk:k<d.vars.length) (aa:es.length<=10) (ha:at'<=1000000) (U:at' < d.fields.length) (ab:(d.row at').length<=1000):
  Calls prog 155 #[.pointer (some ⟨g,0,none⟩)] w fun e ad=>e=.returned (.tuple #[])∧Stp w0 g i at' x (es++[((at' : Int)+1,K5 d at' k)]) wr p A D ad:=by
 obtain⟨s,ai,af,C,J⟩:=h;have t:=za (fun (o:Nat) (j:World) (R:Stp w0 g i at' x es wr p ((o,151,[.pointer (some ⟨g,0,none⟩)])::A) D j)=>JR w0 g i at' x d (K5 d at' k) es wr p _ D j ((at' : Int)+1) 198 [.pointer (some ⟨o,0,none⟩)] zgv R ok.x ok.n ok.few ok.own ok.n (by show (d.vars.set k _).length+(d.fields.set at' _).length<=_;rw[List.length_set,List.length_set];exact ok.m) aa (Gt w0 g o i at' x wr p A D d k hi hk U ab));have P:=za C;clear C ok;generalize K5 d at' k=ah at *;obtain⟨sp,au,ar⟩:=s;obtain⟨an,aq,aj,ak,ao,al⟩:=i;dsimp only at hi;subst hi;obtain⟨a1,⟨a2,a3,ax⟩,⟨a0,az,ay⟩⟩:=x;go_enter func155,ntmps155;go_upto_region 1 with(with_reducible first|(refine lbx J ?_;clear J;intro o j J)|refine lld J ?_|((first|refine lbx J ?_|refine lal J ?_|refine lbs J ?_);clear J;intro ag j J)|(refine zc J ?_;clear J;intro j J))
 obtain⟨aw,ac⟩:∃ x,x=j:=⟨_,rfl⟩;subst ac;refine zb [2,3,4,5,6,7,8] ?_;refine yz jm ?_;refine yz jm ?_
 iterate 5 refine qdv ?_
 refine dnd J ?_;clear J;intro ae J;simp only[zr,sTa,sTb];have I:=za (t.out o ae (Stp.push1 P.out J));clear t;go_wp2_with (go_at_call 162;refine I.out.mono ?_;rintro e av ⟨rfl,T⟩;dsimp only)
 (try simp only[Exit.inBlock,Exit.then]);(first|refine qv rfl rfl ?_|refine qw rfl rfl ?_)
 exact⟨rfl,T.drop1⟩
theorem zgw:∀ args w,(callFunc 163 args).run prog w=.ok (.enter 163 args) w:=fun args w=>by kernel_rfl
theorem zgx:∀ args w,(callFunc 164 args).run prog w=.ok (.enter 164 args) w:=fun args w=>by kernel_rfl
theorem zbR (w0:World) (g:Nat) (i:Ins) (at' : Nat) (x:Pv) (wr j:Bool) (A:List zg) (D:List zl) (d:Pd):Vr w0 g i at' x wr j A D 163 [] d d:=by
 intro t r s N p w I C o;go_enter func163,ntmps163;go_wp2
 (try simp only[Exit.inBlock,Exit.then]);(first|refine qv rfl rfl ?_|refine qw rfl rfl ?_)
 exact⟨rfl,o⟩
theorem zbS (w0:World) (g:Nat) (i:Ins) (at' : Nat) (x:Pv) (wr j:Bool) (A:List zg) (D:List zl) (d:Pd):Vr w0 g i at' x wr j A D 164 [] d d:=by
 intro t r s N p w I C o;go_enter func164,ntmps164;go_wp2
 (try simp only[Exit.inBlock,Exit.then]);(first|refine qv rfl rfl ?_|refine qw rfl rfl ?_)
 exact⟨rfl,o⟩
structure Yo (d e:Pd):Prop where
 vars:e.vars=d.vars
 none:e.none=d.none
 len:e.fields.length=d.fields.length
 rows:∀ m,m<d.fields.length->(e.row m).length=(d.row m).length
theorem Yo.refl (d:Pd):Yo d d:=⟨rfl,rfl,rfl,fun _ _=>rfl⟩
theorem Yo.set {d e:Pd}(h:Yo d e) (m n:Nat) (g:Res):Yo d (e.setField m n g):=by
 refine⟨h.vars,h.none,by show (e.fields.set m _).length=_;rw[List.length_set];exact h.len,fun k i=>?_⟩;show ((e.fields.set m ((e.row m).set n g)).getD k []).length=_
 by_cases o:m<e.fields.length
 ·rw[qs _ _ _ _ _ o]
  by_cases j:k=m
  ·rw[if_pos j,List.length_set,<- h.rows k i,j]
  ·rw[if_neg j];exact h.rows k i
 ·rw[List.set_eq_of_length_le (by omega)];exact h.rows k i
theorem Z2 (n:Nat) (b:Res) (d0:Pd):∀ (l:List Int) (d:Pd),Yo d0 d->Yo d0 (yM d n b l)
 | [],_,h=>h
 | s::l,d,h=>Z2 n b d0 l _ (h.set _ _ _)
theorem XK (d:Pd) (n:Nat) (b:Res) (l:List Int) (k:Nat) (hk:k<l.length):yM d n b (l.take (k+1))=(yM d n b (l.take k)).setField (l.getD k 0).toNat n (qx both ((yM d n b (l.take k)).field (l.getD k 0).toNat n) b):=by
 unfold yM;rw[yR l k 0 hk,List.foldl_append];rfl
theorem zar (Z:zg) (A Rv g i N:List zg):(A++(Rv++((g++([Z]++i))++N))).Perm (Z::(A++(Rv++(g++(i++N))))):=by
 have p:A++(Rv++((g++([Z]++i))++N))=A++(Rv++(g++(Z::(i++N)))):=by simp
 rw[p];have j:(g++(Z::(i++N))).Perm (Z::(g++(i++N))):=List.perm_middle;have o:(Rv++(g++(Z::(i++N)))).Perm (Z::(Rv++(g++(i++N)))):=(j.append_left Rv).trans List.perm_middle;exact(o.append_left A).trans List.perm_middle
theorem XL (H:zg) (A Rv g N:List zg):(A++((Rv++(g++[H]))++N)).Perm (H::(A++(Rv++(g++N)))):=by
 have o:A++((Rv++(g++[H]))++N)=A++(Rv++(g++(H::N))):=by simp
 rw[o];have i:(g++(H::N)).Perm (H::(g++N)):=List.perm_middle;have j:(Rv++(g++(H::N))).Perm (H::(Rv++(g++N))):=(i.append_left Rv).trans List.perm_middle;exact(j.append_left A).trans List.perm_middle
theorem zgy:∀ args w,(callFunc 201 args).run prog w=.ok (.enter 201 args) w:=fun args w=>by kernel_rfl
theorem zdP (w0:World) (au a9 aB:Nat) (i:Ins) (at' : Nat) (x:Pv) (bc aQ:Bool) (A:List zg) (D:List zl) (d:Pd) (n b:Nat) (t:Sl) (l:List Int) (bv:i.n=n) (bu:i.b=b) (hb:b<d.vars.length) (aH:zq w0 x d) (ht:zk w0 t l) (bD:U4 d n l) (cJ:0<d.fields.length)
  (bW:(d.var b).l.length<=1000) (a5:∀ g m,g<=l.length->m<d.fields.length->((yM d n (d.var b) (l.take g)).field m n).l.length<=1000):
  Vr w0 au i at' x bc aQ ((a9,37,[.slice t.p t.n t.cap])::(aB,151,[.pointer (some ⟨au,0,none⟩)])::A) D 201 [.pointer (some ⟨a9,0,none⟩),.pointer (some ⟨aB,0,none⟩)] d (yM d n (d.var b) l):=by
 intro bm r s N be w cb bB bQ;obtain⟨ak,aR,a0,aj,c4,aP,I,J⟩:=bQ;have ax:=J.get (S:=zH ak aR d.vars d.fields) List.mem_cons_self;have bt:r.fields.n=d.fields.length:=by
  have a2:=I.heads.flatlen (f:=Sl.row) (es:=1) (fun _=>rfl) (by decide);rw[a2,I.rows.len,ax.2.len]
 have ca:a0.length=d.fields.length:=by rw[I.rows.len,ax.2.len]
 obtain⟨ar,av,b2,rfl,-,-⟩:=I.heads.block (by omega);have bU:=I.heads.max;have bJ:=za (fun m (cL:m<d.fields.length)=>show zn prog 51 av m (a0.getD m zi).v from zn.cell jZ (I.heads.at1 (k:=m) (by omega)));have aM:=za (And.intro I.rows (And.intro I.vars I.heads));obtain⟨bb,bx,bw⟩:=aH.vars.ex;have ch:=aH.vars.n;have cf:=aH.vars.m;obtain⟨bl,bF,b3,aT⟩:=bx.ex;have b4:=b3 (by omega);have a7:=za (show zd prog 108 w0 bl (bF+b*7) ((d.var b).gu (bb b)).v from zd.agg (P:=prog) zO (aT b (by omega)).1 (aT b (by omega)).2 rfl);have aI:=za (show zk w0 (bb b) (d.var b).l from bw b (by omega));have bS:b<x.vars.n:=by omega
 obtain⟨c5,cP,b6,br⟩:=ht.at'.ex;have bE:=ht.n;have cd:=ht.m;have bj:=za b6;have bf:=za br;have bN:=za bD.at';have bi:=za a5;have aL:=za (fun g (aV:g<l.length)=>XK d n (d.var b) l g aV);have bh:=za (fun g=>Z2 n (d.var b) d (l.take g) d (Yo.refl d));have bK:=za (show yM d n (d.var b) (l.take 0)=d from rfl);have aK:=za (show yM d n (d.var b) (l.take l.length)=yM d n (d.var b) l by rw[List.take_length]);have a4:Loc w0 w ((bm,54,r.cells)::(au,153,stC i at' x s bc aQ)::(a9,37,[.slice t.p t.n t.cap])::(aB,151,[.pointer (some ⟨au,0,none⟩)])::(ar,51,av)::(A++(aj++(aP++N)))) (zH ak aR (yM d n (d.var b) (l.take 0)).vars (yM d n (d.var b) (l.take 0)).fields::be):=
  J.perm (((((XL (ar,51,av) A aj aP N).cons _).cons _).cons _).cons _).symm
 clear J;have J:=a4;clear a4 I ax aH bx bw b3 aT b6 br ht bD a5 cb;generalize b0:(fun g=>yM d n (d.var b) (l.take g))=pd;have b1:∀ g,yM d n (d.var b) (l.take g)=pd g:=fun g=>by rw[<- b0]
 simp only[b1]at bi aL bh bK aK J;rw[<- aK.out];clear b0 b1 aK;generalize d.var b=o at a7 aI aL bW;generalize bb b=bG at a7 aI;obtain⟨cQ,⟨cu,ct,cs⟩,⟨cC,fn,bP⟩⟩:=r;obtain⟨cm,cn,ck,cN,cO,cl⟩:=i;obtain⟨c1,⟨cZ,c2,cx⟩,⟨c0,cz,cy⟩⟩:=x;obtain⟨cr,cW,cq⟩:=t;dsimp only at bv bu bB b2 bt bU b4 bS ch cf bE cd;subst bv bu bB b2 bt b4 bE;go_enter func201,ntmps201;go_upto_region 1 with(with_reducible first|refine ldO (zn.cell KM rfl) J ?_|refine lld J ?_|((first|refine lbx J ?_|refine lal J ?_|refine lbs J ?_);clear J;intro aA af J)|(refine zc J ?_;clear J;intro af J))
 go_wp2_with (with_reducible first|refine ldO (zn.cell KM rfl) J ?_|refine lld J ?_|((first|refine lbx J ?_|refine lal J ?_|refine lbs J ?_);clear J;intro aA af J)|(refine zc J ?_;clear J;intro af J));go_loopw [8] (fun c cw=>∃ (g:Nat) (C : List (List Gu)) (a1 : List zg),g<=l.length∧c=.int .i64 g∧jT a0 C a1∧Loc w0 cw ((bm,54,[.bool false,.slice cu ct cs,.slice (some ⟨ar,0,none⟩) d.fields.length bP])::(au,153,stC ⟨cm,cn,ck,b,n,cl⟩ at' ⟨c1,⟨some ⟨bl,bF,none⟩,c2,cx⟩,⟨c0,cz,cy⟩⟩ s bc aQ)::(a9,37,[.slice cr l.length cq])::(aB,151,[.pointer (some ⟨au,0,none⟩)])::(ar,51,av)::(A++(aj++(a1++N)))) (zH ak C (pd g).vars (pd g).fields::be)) (fun c _=>l.length - (intOf c).toNat)
 case atStart=>exact⟨0,aR,aP,Nat.zero_le _,rfl,aM.out.1,J⟩
 case round=>
  obtain⟨g,C,a1,aV,rfl,aS,J⟩:=hrel;by_cases a6:g<l.length
  ·obtain⟨m,aW,ae,aY⟩:=bN.out g a6
   have ax:=J.get (S:=zH ak C (pd g).vars (pd g).fields) List.mem_cons_self;have ao:=bh.out g;obtain⟨aN,R,aO,rfl,al,bA⟩:=aS.get m (by rw[ca];exact ae);have aU:=ax.2.at' m (by rw[ao.len];exact ae);have bC:=al.flatlen jb (by decide);have ba:(a0.getD m zi).n=(d.row m).length:=(bC.trans aU.len).trans (ao.rows m ae);obtain⟨aC,aw,aZ,rfl,cc,a5⟩:=al.block (by omega);have bs:=al.elem jb zI (k:=n) (by omega);have b7:=fun j=>al.put jb zI (k:=n) (by omega) j
   have bT:=al.fits;have bz:=al.max;have ay:=aU.at' n (by rw[show ((pd g).fields.getD m []).length=(d.row m).length from ao.rows m ae];exact aY);have bO:=za (fun j:Gu=>show n*7+j.cells.length<=aw.length by show n*7+7<=_;rw[a5];omega);have bL:=za (fun j=>bA _ _ (b7 j));have bg:=za (show zn prog 108 aw (n*7) ((C.getD m []).getD n zI).v from zn.agg zO bs rfl);have a8:=za (bJ.out m ae);have az:=aL.out g a6;rw[aW]at az;obtain⟨ad,aE⟩:∃ f,(pd g).field m n=f:=⟨_,rfl⟩;replace az:pd (g+1)=(pd g).setField m n (qx both ((pd g).field m n) o):=az;rw[aE]at az;replace ay:ql wr ((C.getD m []).getD n zI) ad:=by rw[<- aE];exact ay
   have cK:ad.l.length<=1000:=by rw[<- aE];exact bi.out g m aV ae
   clear aE;generalize bV:(C.getD m []).getD n zI=j at bg ay;clear bV;have an:=fun aq (bq:Below wr.heap.size wr aq)=>Yb 60 both YP Qy j (o.gu bG) ad.l o.l aq (ql.l ay |>.grow bq) (aI.out.grow (J.below.trans (bq.mono J.below.size))) (by omega)
   have b8:∀ r,(⟨j.null || o.null,both j.span o.span,j.tr || o.tr,j.fa || o.fa,r⟩:Gu)=(qx both ad o).gu r:=fun r=>by rw[ay.e]
   have b9:yQ ad.l o.l=(qx both ad o).l:=rfl;dsimp only[Res.gu]at an;simp only[b8]at an;rw[b9]at an;have aJ:=za (fun aq (q:Sl) (a2:zk aq q (qx both ad o).l) (a3:zH ak C (pd g).vars (pd g).fields aq)=>show zH ak (C.set m ((C.getD m []).set n ((qx both ad o).gu q))) (pd (g+1)).vars (pd (g+1)).fields aq by
    rw[az];exact⟨a3.1,a3.2.set (by rw[ao.len];exact ae) ((a3.2.at' m (by rw[ao.len];exact ae)).set (by rw[show ((pd g).fields.getD m []).length=(d.row m).length from ao.rows m ae];exact aY) (ql.mk' a2))⟩)
   have aF:=zd.cell (P:=prog) y2 (bf.out g a6).1 ((bf.out g a6).2 0 _ rfl);simp only[Nat.mul_one,Nat.add_zero]at aF;rw[aW]at aF;have b5:=bj.out (by show 0<l.length;omega)
   (try dsimp only at b5)
   subst b5;clear bj b8 b9 ax aU ay bC bA b7 bs cc a5 bT al az aS ao;have a4:=J.perm ((((((zar (aC,108,aw) A aj aN aO N).cons _).cons _).cons _).cons _).cons _).symm;clear J;have J:=a4;clear a4;generalize a0.getD m zi=row at a8 ba aZ bz;generalize qx both ad o=B at an aJ;obtain⟨cS,cp,cR⟩:=row;obtain⟨aa,⟨ab,U,T⟩,ac,Bf,bd⟩:=B;obtain⟨cG,⟨cI,cF,cE⟩,gt,cD,⟨cH,gk,gc⟩⟩:=j;obtain⟨c9,⟨cA,c8,c7⟩,cB,c6,dl⟩:=o;obtain⟨cT,cU,cV⟩:=bG;dsimp only[Res.gu,Sl.v]at an a8 ba aZ bz a7 aJ;subst aZ;have cM:n<cp:=by omega
   have bI:=za an;have bM:=za aF;clear an aF aW ba aY;obtain⟨bH,cj⟩:∃ x,x=wr:=⟨_,rfl⟩;subst cj;go_upto_region 3 with(with_reducible first|refine ldB bM.out J ?_|refine lld J ?_|((first|refine lbx J ?_|refine lal J ?_|refine lbs J ?_);clear J;intro aA af J)|(refine zc J ?_;clear J;intro af J))
   refine zb [12,13,14,15,16,17,18,19,20,21,22,23,24,25,26,27,28,29,30,31,32,33,34,35,36,37,38,39,40,41,42,43,44,45,46,47,48,49,50,51] ?_
   iterate 6 refine qdv ?_
   refine yT a8.out ?_;refine yz jm ?_
   iterate 10 refine qdv ?_
   refine yT a8.out ?_;refine yz jm ?_
   iterate 5 refine qdv ?_
   refine yT bg.out ?_;refine yz jm ?_
   iterate 4 refine qdv ?_
   refine yz jm ?_
   iterate 5 refine qdv ?_
   refine qdl a7.out ?_;refine qdn (GuR bH.heap.size aa ⟨ab,U,T⟩ ac Bf bd) GuR.stable J ?_ ?_
   ·intro j w hb J _ q;simp only[aG]at q;simp only[fD];simp only[q]
    go_wp2_with (go_at_call 104;refine(bI.out _ hb).mono ?_;rintro e cX ⟨r,rfl,⟨R,bZ,bY⟩,bR⟩;dsimp only);exact⟨rfl,_,rfl,bR,r,R,rfl,bZ,bY.mono hb.size⟩
   refine qdv ?_;refine qy J ?_;intro j cv hb bo q;simp only[aG]at q;have aD:(GuR bH.heap.size aa ⟨ab,U,T⟩ ac Bf bd) (j 50) cv:=qye bo 38;obtain⟨⟨ag,ah,ai⟩,c3,aD,bp,bn⟩:=aD;clear bo;simp only[fD];simp only[q,aD];clear q aD;replace J:=J.more hb (QL bp bn);clear bp bn;clear hb;go_wp2_with (first|(refine zR (b:=aC) (off:=n*7) (vs:=Gu.cells ⟨aa,⟨ab,U,T⟩,ac,Bf,⟨ag,ah,ai⟩⟩) (cs':=zj aw (n*7) (Gu.cells ⟨aa,⟨ab,U,T⟩,ac,Bf,⟨ag,ah,ai⟩⟩)) J rfl rfl cIn rfl zO.sz rfl (bO.out ⟨aa,⟨ab,U,T⟩,ac,Bf,⟨ag,ah,ai⟩⟩) rfl ?_;clear J;intro aq J)|(with_reducible first|refine lld J ?_|((first|refine lbx J ?_|refine lal J ?_|refine lbs J ?_);clear J;intro aA af J)|(refine zc J ?_;clear J;intro af J)));go_roundw
   case rel=>
    exact⟨g+1,C.set m ((C.getD m []).set n ⟨aa,⟨ab,U,T⟩,ac,Bf,⟨ag,ah,ai⟩⟩),aN++([(aC,108,zj aw (n*7) (Gu.cells ⟨aa,⟨ab,U,T⟩,ac,Bf,⟨ag,ah,ai⟩⟩))]++aO),by omega,by go_num,bL.out ⟨aa,⟨ab,U,T⟩,ac,Bf,⟨ag,ah,ai⟩⟩,(J.perm ((((((zar (aC,108,zj aw (n*7) (Gu.cells ⟨aa,⟨ab,U,T⟩,ac,Bf,⟨ag,ah,ai⟩⟩)) A aj aN aO N).cons _).cons _).cons _).cons _).cons _)).both (fun w a2 a3=>aJ.out w ⟨ag,ah,ai⟩ a2 a3)⟩
   case measure=>simp[intOf];omega
  ·obtain rfl:g=l.length:=by omega
   clear a6;go_wp2_with (with_reducible first|refine lld J ?_|((first|refine lbx J ?_|refine lal J ?_|refine lbs J ?_);clear J;intro aA af J)|(refine zc J ?_;clear J;intro af J))
   (try simp only[Exit.inBlock,Exit.then]);(first|refine qv rfl rfl ?_|refine qw rfl rfl ?_)
   refine⟨rfl,ak,C,a0,aj,[(ar,51,av)],a1,⟨aM.out.2.1,aM.out.2.2,aS⟩,?_⟩;exact J.perm (((((XL (ar,51,av) A aj a1 N).cons _).cons _).cons _).cons _)
theorem zhQ:yx prog 37 [.slice none 0 0]:=⟨by kernel_rfl⟩
theorem zeZ (w0:World) (bs:Nat) (i:Ins) (at' : Nat) (x:Pv) (d:Pd) (es:List (Int × Pd)) (wr t:Bool) (A:List zg) (D:List zl) (w:World) (a n b:Nat)
  (h:Stp w0 bs i at' x es wr t A D w) (ok:qV w0 x d) (hi:i.a=a) (ha:a<d.vars.length) (ae:i.n=n) (ad:i.b=b) (hb:b<d.vars.length) (aq:U4 d n (d.var a).l) (aw:0<d.fields.length)
  (ax:(d.var b).l.length<=1000) (ao:∀ j m,j<=(d.var a).l.length->m<d.fields.length->((yM d n (d.var b) ((d.var a).l.take j)).field m n).l.length<=1000) (ay:es.length<=10) (a9:at'<=1000000):
  Calls prog 157 #[.pointer (some ⟨bs,0,none⟩)] w fun e a5=>e=.returned (.tuple #[])∧Stp w0 bs i at' x (es++if (d.var a).l=[] then [] else [((at' : Int)+1,yM d n (d.var b) (d.var a).l)]) (jJ (d.var a)) t A D a5:=by
 obtain⟨s,aa,T,an,J⟩:=h;have al:=za (fun (o:Nat) (g:World) (P:Stp w0 bs i at' x es wr t ((o,151,[.pointer (some ⟨bs,0,none⟩)])::A) D g)=>XH w0 bs i at' x d es wr t _ D g a P ok.x hi ha);have R:=Z2 n (d.var b) d (d.var a).l d (Yo.refl d);have ai:=za (fun (C o:Nat) (I:Sl) (g:World) (az:zk w0 I (d.var a).l) (P:Stp w0 bs i at' x es (jJ (d.var a)) t ((C,37,[.slice I.p I.n I.cap])::(o,151,[.pointer (some ⟨bs,0,none⟩)])::A) D g)=>JR w0 bs i at' x d (yM d n (d.var b) (d.var a).l) es (jJ (d.var a)) t _ D g ((at' : Int)+1) 201 [.pointer (some ⟨C,0,none⟩),.pointer (some ⟨o,0,none⟩)] zgy P ok.x ok.n ok.few ok.own (by rw[R.none];exact ok.n) (by rw[R.vars,R.len];exact ok.m) ay (zdP w0 bs C o i at' x (jJ (d.var a)) t A D d n b I _ ae ad hb ok.x az aq aw ax ao));have aj:=za an;clear an ok aq ao R;generalize yM d n (d.var b) (d.var a).l=a7 at *;generalize jJ (d.var a)=aL at *;generalize (d.var a).l=l at *;obtain⟨sp,ah,ag⟩:=s;obtain⟨aD,aF,aA,aB,aE,aC⟩:=i;dsimp only at hi ae ad;subst hi ae ad;obtain⟨aR,⟨aS,aT,aN⟩,⟨aQ,aP,aO⟩⟩:=x;go_enter func157,ntmps157;go_upto_region 1 with(with_reducible first|(refine lbx J ?_;clear J;intro o g J)|refine lld J ?_|((first|refine lbx J ?_|refine lal J ?_|refine lbs J ?_);clear J;intro U g J)|(refine zc J ?_;clear J;intro g J))
 have ak:=za (al.out o g (Stp.push1 aj.out J));clear al aj;go_upto_region 2 with(first|(with_reducible refine ldO (zn.cell jm rfl) J ?_)|(go_at_call 200;refine ak.out.mono ?_;clear J;rintro e aI ⟨⟨a4,a3,a2⟩,rfl,af,⟨⟨sp,ah,ag⟩,aa,T,ac,J⟩⟩;clear ak;dsimp only[Sl.v])|((with_reducible refine lal (hz:=zhQ) J ?_);clear J;intro C aJ J)|(with_reducible first|refine lld J ?_|((first|refine lbx J ?_|refine lal J ?_|refine lbs J ?_);clear J;intro U g J)|(refine zc J ?_;clear J;intro g J)))
 have a0:a3=l.length:=af.n;subst a0;by_cases ab:l=[]
 ·subst ab
  go_wp2_with (with_reducible first|refine lld J ?_|((first|refine lbx J ?_|refine lal J ?_|refine lbs J ?_);clear J;intro U g J)|(refine zc J ?_;clear J;intro g J))
  (try simp only[Exit.inBlock,Exit.then]);(first|refine qv rfl rfl ?_|refine qw rfl rfl ?_)
  refine⟨rfl,⟨sp,ah,ag⟩,aa,T,by simpa using ac,?_⟩;exact J.drop (.cons _ (.cons_cons _ (.cons _ (List.Sublist.refl _)))) (fun _ h=>h)
 ·have P:¬ l.length=0:=by simpa using ab
  have a8:((l.length:Int)==0)=false:=by simpa using ab
  go_upto_region 3 with(with_reducible first|refine lld J ?_|((first|refine lbx J ?_|refine lal J ?_|refine lbs J ?_);clear J;intro U g J)|(refine zc J ?_;clear J;intro g J))
  rename_i a6;obtain⟨aM,a1⟩:∃ x,x=a6:=⟨_,rfl⟩;subst a1;refine zb [8,9,10,11,12,13,14] ?_;refine yz jm ?_;refine yz jm ?_
  iterate 5 refine qdv ?_
  refine dnd J ?_;clear J;intro aH J;simp only[zr,sTa,sTb];have au:=za (ai.out C o ⟨a4,l.length,a2⟩ _ af ⟨⟨sp,ah,ag⟩,aa,T,ac,J.perm (List.Perm.swap _ _ _)⟩);clear ai ac af;go_wp2_with (go_at_call 162;refine au.out.mono ?_;rintro e aK ⟨rfl,av⟩;dsimp only)
  (try simp only[Exit.inBlock,Exit.then]);(first|refine qv rfl rfl ?_|refine qw rfl rfl ?_)
  exact⟨rfl,av.drop2⟩
structure qq (p:Pg) (d:Pd):Prop where
 r:zS p d
 s:∀ k,k<d.vars.length->∀ j,j<(d.var k).l.length->∃ m:Nat,(d.var k).l.getD j 0=m∧m<d.fields.length
theorem idx {a v:Int}{b:Nat}(h:0<=a∧a<v) (hv:(b:Int)=v):a=(a.toNat:Int)∧a.toNat<b:=by omega
theorem qq.sites {p:Pg}{d:Pd}(h:qq p d) {n a:Nat}(hn:(n:Int)<p.fields) (ha:a<d.vars.length):U4 d n (d.var a).l:=by
 have C:∀ m,m<d.fields.length->n<(d.row m).length:=fun m g=>by have:=h.r.rows m g;omega
 refine⟨fun k o=>?_,by have:=(h.r.vg a ha).le;omega,fun m g t=>by have:=(h.r.fg m n g t).le;omega⟩;obtain⟨m,j,i⟩:=h.s a ha k o;exact⟨m,j,i,C m i⟩
structure jH (d:Res):Prop where
 ins:inS d.l
 asc:Zr d.l
theorem jH.le {d:Res}(h:jH d):d.l.length<=60:=ziG h.ins h.asc
theorem jN.few {d:Res}(h:jN d):jH d:=⟨h.ins,h.asc⟩
theorem jH.mix {d e:Res}(h:jH d) (g:jH e):jH (qx both d e):=
 ⟨fun x i=>(((Qn d.l e.l).2 x).1 i).elim (h.ins x) (g.ins x),(Qn d.l e.l).1⟩
theorem jH.zero:jH zo:=⟨(fun x g=>by cases g),List.Pairwise.nil⟩
theorem jH.noth:jH Kk:=⟨(fun x g=>by cases g),List.Pairwise.nil⟩
theorem zas {i:Type}{P:i->Prop}{l:List i}{z:i}(h:∀ k,k<l.length->P (l.getD k z)) (j:P z) (k:Nat):P (l.getD k z):=by
 rcases Nat.lt_or_ge k l.length with g|g
 ·exact h k g
 ·rw[List.getD_eq_getElem?_getD,List.getElem?_eq_none g];exact j
theorem qq.fews {p:Pg}{d:Pd}(h:qq p d) (m n:Nat):jH (d.field m n):=by
 rcases Nat.lt_or_ge m d.fields.length with g|g
 ·exact zas (P:=jH) (l:=d.row m) (fun k i=>(h.r.fg m k g i).few) jH.zero n
 ·show jH ((d.fields.getD m []).getD n zo)
  rw[show d.fields.getD m []=[] by rw[List.getD_eq_getElem?_getD,List.getElem?_eq_none g];rfl];exact jH.zero
theorem qq.var {p:Pg}{d:Pd}(h:qq p d) (k:Nat):jH (d.var k):=zas (P:=jH) (l:=d.vars) (fun k g=>(h.r.vg k g).few) jH.zero k
theorem jH.get {d:Pd}(h:∀ m n,jH (d.field m n)) (n:Nat):∀ (l:List Int) (g:Res),jH g->jH (l.foldl (fun g s=>qx both g (d.field s.toNat n)) g)
 | [],_,hg=>hg
 | s::l,_,hg=>jH.get h n l _ (hg.mix (h _ _))
theorem zdQ (d:Pd) (m n i j:Nat) (g:Res) (p:m<d.fields.length) (hn:n<(d.row m).length):(d.setField m n g).field i j=if i=m∧j=n then g else d.field i j:=by
 show ((d.fields.set m ((d.row m).set n g)).getD i []).getD j zo=_
 rw[qs _ _ _ _ _ p];by_cases h:i=m
 ·subst h
  rw[if_pos rfl,qs _ _ _ _ _ hn];by_cases o:j=n
  ·rw[if_pos o,if_pos ⟨rfl,o⟩]
  ·rw[if_neg o,if_neg (fun h=>o h.2)]
 ·rw[if_neg h,if_neg (fun o=>h o.1)]
theorem jH.setf {d:Pd}(h:∀ i j,jH (d.field i j)) {g:Res}(p:jH g) (m n:Nat) (i j:Nat):jH ((d.setField m n g).field i j):=by
 by_cases o:m<d.fields.length
 ·by_cases t:n<(d.row m).length
  ·rw[zdQ d m n i j g o t]
   split
   ·exact p
   ·exact h i j
  ·have e:(d.row m).set n g=d.row m:=List.set_eq_of_length_le (by omega)
   show jH (((d.fields.set m ((d.row m).set n g)).getD i []).getD j zo)
   rw[e,qs _ _ _ _ _ o];split
   ·exact h m j
   ·exact h i j
 ·show jH (((d.fields.set m ((d.row m).set n g)).getD i []).getD j zo)
  rw[List.set_eq_of_length_le (by omega)];exact h i j
theorem jH.put (n:Nat) {b:Res}(hb:jH b):∀ (l:List Int) (d:Pd),(∀ g i,jH (d.field g i))->∀ g i,jH ((yM d n b l).field g i)
 | [],_,h=>h
 | s::l,d,h=>jH.put n hb l _ (jH.setf h ((h _ _).mix hb) _ _)
theorem Stp.dropF {w0:World}{j:Nat}{i:Ins}{at' : Nat}{x:Pv}{es:List (Int × Pd)}{wr o:Bool}{A:List zg}{D:List zl}{S:zl}{w:World}(h:Stp w0 j i at' x es wr o A (S::D) w):Stp w0 j i at' x es wr o A D w:=by
 obtain⟨s,t,p,C,J⟩:=h;exact⟨s,t,p,C,J.drop (List.Sublist.refl _) (fun S g=>by
  rcases List.mem_cons.1 g with rfl|g
  ·exact List.mem_cons_self
  ·exact List.mem_cons_of_mem _ (List.mem_cons_of_mem _ g))⟩
theorem Loc.gainPtr {w0 w o:World}{L:List zg}{D:List zl}(h:Loc w0 w L D) (hb:Below w.heap.size w o) {b:Nat}{T:TypeId}{i:List Value}(ab:w.heap.size<=b) (hc:o.heap[b]? = some (.cells i.toArray T (0,0))) {r:Sl}{R:List zg}{l:List Int}
  (I:zB 3 1 r.p r.n r.cap (l.map (Value.int .i64)) R) (t:Own w.heap.size o R) (hT:T≠3):Loc w0 o ((b,T,i)::L) ((fun w=>zk w r l)::D):=by
 have P:Own w.heap.size o ((b,T,i)::R):=by
  refine⟨?_,fun e he=>?_⟩
  ·rw[List.map_cons,List.nodup_cons]
   refine⟨fun aa=>?_,t.nodup⟩;obtain⟨e,he,U⟩:=List.mem_map.1 aa;have j:=(t.at' e he).2;rw[U,hc]at j;have C:T=e.2.1:=by injection j with j;injection j
   rcases I.2 with⟨_,_,rfl⟩|⟨g,ad,_,rfl,_⟩
   ·cases he
   ·rw[List.mem_singleton.1 he]at C
    exact hT C
  ·rcases List.mem_cons.1 he with rfl|he
   ·exact⟨ab,hc⟩
   ·exact t.at' e he
 have j:=h.gainOwn hb P;have C:Loc w0 o (((b,T,i)::L)++R) D:=j.perm (by
  show (((b,T,i)::L)++R).Perm ((b,T,i)::(R++L))
  exact(List.perm_append_comm (l₁:=L) (l₂:=R)).cons _)
 exact C.fact (S:=fun w=>zk w r l) (fun af ac=>I.ints (B:=w.heap.size) ⟨t.nodup,fun e he=>⟨(t.at' e he).1,ac e he⟩⟩)
def qf (w0:World) (g:Nat) (i:Ins) (at' : Nat) (x:Pv) (d:Pd) (A:List zg) (D:List zl) (w:World):Prop:=
 Calls prog 107 #[.pointer (some ⟨g,0,none⟩)] w fun e j=>e=.returned (.tuple #[])∧Stp w0 g i at' x (zJ i at' d).es (zJ i at' d).wr (zJ i at' d).fl A D j
theorem zc4:∀ args w,(callFunc 160 args).run prog w=.ok (.enter 160 args) w:=fun args w=>by kernel_rfl
theorem zgz:∀ args w,(callFunc 161 args).run prog w=.ok (.enter 161 args) w:=fun args w=>by kernel_rfl
theorem zat (w:World) (g:Gu) (d:Res) (h:ql w g d):ql w (J8 g) (jV d):=⟨by rw[h.e],h.l⟩
theorem zbT (w:World) (g:Gu) (d:Res) (h:ql w g d):ql w (Kj g) (yc d):=⟨by rw[h.e],zk.nil w⟩
theorem zhR {i:Ins}(h:jQ i=false) (hk:nN i.kind=false):i.n=0:=by
 unfold jQ at h;simp[hk]at h;omega
theorem zhS {i:Ins}(h:jQ i=false) (hk:nB i.kind=false):i.b=0:=by
 unfold jQ at h;simp[hk]at h;omega
theorem zc5 {d:Res}{s:Sl}(h:s.n=d.l.length):Jf (d.gu s)=Jf (d.gu ⟨none,d.l.length,0⟩):=by unfold Jf;rw[h]
theorem zgA (w0:World) (j:Nat) (i:Ins) (at' : Nat) (x:Pv) (d:Pd) (A:List zg) (D:List zl) (w:World) (p:Pg) (h:Stp w0 j i at' x [] false false A D w) (ok:qV w0 x d) (t:yU p i) (hf:jQ i=false) (P:qq p d) (ha:at' < d.fields.length) (ae:at'<=1000000) (hk:i.kind=1):qf w0 j i at' x d A D w:=by
 unfold qf;rw[show zJ i at' d=⟨jK d at' i.to.toNat (qZ i),false,false⟩ by unfold zJ;rw[if_pos (by omega)]];obtain⟨R,T⟩:=idx (t.to (by rw[hk];decide)) P.r.vars;have aa:=za (fun g o=>Z3 w0 j i at' x [] false false A D g o (by omega) (by have:=t.n1 hk;omega));have ab:=za (fun g C o=>JS w0 j i at' x d [] false false A ((fun w=>ql w C (qZ i))::D) g i.to.toNat C (qZ i) o ok R T List.mem_cons_self (by simp) ae);have U:=za h;obtain⟨⟨sp,a1,az⟩,ai,ag,I,J⟩:=h;have af:=za I;clear I ok;clear R T t P;generalize qZ i=pd at *;generalize jK d at' i.to.toNat pd=a0 at *;obtain⟨aw,ay,ar,au,ax,av⟩:=i;obtain⟨a8,⟨a9,aA,a4⟩,⟨a7,a6,a5⟩⟩:=x;dsimp only at hk;subst hk;go_enter func107,ntmps107;go_wp2_with (first|(with_reducible first|refine lld J ?_|((first|refine lbx J ?_|refine lal J ?_|refine lbs J ?_);clear J;intro ah g J)|(refine zc J ?_;clear J;intro g J))|(go_at_call 154;refine(aa.out _ U.out).mono ?_;rintro e a2 ⟨⟨an,⟨aq,al,ak⟩,gt,aj,⟨ao,gk,gc⟩⟩,rfl,ac⟩;dsimp only)|(go_at_call 153;refine(ab.out _ _ ac).mono ?_;rintro e a3 ⟨rfl,ad⟩;dsimp only))
 (try simp only[Exit.inBlock,Exit.then]);(first|refine qv rfl rfl ?_|refine qw rfl rfl ?_)
 exact⟨rfl,ad.dropF⟩
theorem ze0 (w0:World) (j:Nat) (i:Ins) (at' : Nat) (x:Pv) (d:Pd) (A:List zg) (D:List zl) (w:World) (p:Pg) (h:Stp w0 j i at' x [] false false A D w) (ok:qV w0 x d) (t:yU p i) (hf:jQ i=false) (P:qq p d) (ha:at' < d.fields.length) (ae:at'<=1000000) (hk:i.kind=14):qf w0 j i at' x d A D w:=by
 unfold qf;rw[show zJ i at' d=⟨jK d at' i.to.toNat (qZ i),false,false⟩ by unfold zJ;rw[if_pos (by omega)]];obtain⟨R,T⟩:=idx (t.to (by rw[hk];decide)) P.r.vars;have aa:=za (fun g o=>Z3 w0 j i at' x [] false false A D g o (by omega) (by have:=t.n14 hk;omega));have ab:=za (fun g C o=>JS w0 j i at' x d [] false false A ((fun w=>ql w C (qZ i))::D) g i.to.toNat C (qZ i) o ok R T List.mem_cons_self (by simp) ae);have U:=za h;obtain⟨⟨sp,a1,az⟩,ai,ag,I,J⟩:=h;have af:=za I;clear I ok;clear R T t P;generalize qZ i=pd at *;generalize jK d at' i.to.toNat pd=a0 at *;obtain⟨aw,ay,ar,au,ax,av⟩:=i;obtain⟨a8,⟨a9,aA,a4⟩,⟨a7,a6,a5⟩⟩:=x;dsimp only at hk;subst hk;go_enter func107,ntmps107;go_wp2_with (first|(with_reducible first|refine lld J ?_|((first|refine lbx J ?_|refine lal J ?_|refine lbs J ?_);clear J;intro ah g J)|(refine zc J ?_;clear J;intro g J))|(go_at_call 154;refine(aa.out _ U.out).mono ?_;rintro e a2 ⟨⟨an,⟨aq,al,ak⟩,gt,aj,⟨ao,gk,gc⟩⟩,rfl,ac⟩;dsimp only)|(go_at_call 153;refine(ab.out _ _ ac).mono ?_;rintro e a3 ⟨rfl,ad⟩;dsimp only))
 (try simp only[Exit.inBlock,Exit.then]);(first|refine qv rfl rfl ?_|refine qw rfl rfl ?_)
 exact⟨rfl,ad.dropF⟩
theorem zgB (w0:World) (j:Nat) (i:Ins) (at' : Nat) (x:Pv) (d:Pd) (A:List zg) (D:List zl) (w:World) (p:Pg) (h:Stp w0 j i at' x [] false false A D w) (ok:qV w0 x d) (t:yU p i) (hf:jQ i=false) (P:qq p d) (ha:at' < d.fields.length) (ae:at'<=1000000) (hk:i.kind=2):qf w0 j i at' x d A D w:=by
 unfold qf;rw[show zJ i at' d=⟨jK d at' i.to.toNat (qZ i),false,false⟩ by unfold zJ;rw[if_pos (by omega)]];obtain⟨R,T⟩:=idx (t.to (by rw[hk];decide)) P.r.vars;have aa:=za (fun g o=>Z3 w0 j i at' x [] false false A D g o (by omega) (by have:=t.n2 hk;omega));have ab:=za (fun g C o=>JS w0 j i at' x d [] false false A ((fun w=>ql w C (qZ i))::D) g i.to.toNat C (qZ i) o ok R T List.mem_cons_self (by simp) ae);have U:=za h;obtain⟨⟨sp,a1,az⟩,ai,ag,I,J⟩:=h;have af:=za I;clear I ok;clear R T t P;generalize qZ i=pd at *;generalize jK d at' i.to.toNat pd=a0 at *;obtain⟨aw,ay,ar,au,ax,av⟩:=i;obtain⟨a8,⟨a9,aA,a4⟩,⟨a7,a6,a5⟩⟩:=x;dsimp only at hk;subst hk;go_enter func107,ntmps107;go_wp2_with (first|(with_reducible first|refine lld J ?_|((first|refine lbx J ?_|refine lal J ?_|refine lbs J ?_);clear J;intro ah g J)|(refine zc J ?_;clear J;intro g J))|(go_at_call 154;refine(aa.out _ U.out).mono ?_;rintro e a2 ⟨⟨an,⟨aq,al,ak⟩,gt,aj,⟨ao,gk,gc⟩⟩,rfl,ac⟩;dsimp only)|(go_at_call 153;refine(ab.out _ _ ac).mono ?_;rintro e a3 ⟨rfl,ad⟩;dsimp only))
 (try simp only[Exit.inBlock,Exit.then]);(first|refine qv rfl rfl ?_|refine qw rfl rfl ?_)
 exact⟨rfl,ad.dropF⟩
theorem zgC (w0:World) (j:Nat) (i:Ins) (at' : Nat) (x:Pv) (d:Pd) (A:List zg) (D:List zl) (w:World) (p:Pg) (h:Stp w0 j i at' x [] false false A D w) (ok:qV w0 x d) (T:yU p i) (hf:jQ i=false) (I:qq p d) (ha:at' < d.fields.length) (ae:at'<=1000000) (hk:i.kind=3):qf w0 j i at' x d A D w:=by
 unfold qf;rw[show zJ i at' d=⟨jK d at' i.to.toNat (qZ i),false,false⟩ by unfold zJ;rw[if_pos (by omega)]];obtain⟨P,R⟩:=idx (T.to (by rw[hk];decide)) I.r.vars;have aa:=za (fun g o=>Z3 w0 j i at' x [] false false A D g o (by omega) (by have:=zhR hf (by rw[hk];decide);omega));have ab:=za (fun g t o=>JS w0 j i at' x d [] false false A ((fun w=>ql w t (qZ i))::D) g i.to.toNat t (qZ i) o ok P R List.mem_cons_self (by simp) ae);have U:=za h;obtain⟨⟨sp,a1,az⟩,ai,ag,C,J⟩:=h;have af:=za C;clear C ok;clear P R T I;generalize qZ i=pd at *;generalize jK d at' i.to.toNat pd=a0 at *;obtain⟨aw,ay,ar,au,ax,av⟩:=i;obtain⟨a8,⟨a9,aA,a4⟩,⟨a7,a6,a5⟩⟩:=x;dsimp only at hk;subst hk;go_enter func107,ntmps107;go_wp2_with (first|(with_reducible first|refine lld J ?_|((first|refine lbx J ?_|refine lal J ?_|refine lbs J ?_);clear J;intro ah g J)|(refine zc J ?_;clear J;intro g J))|(go_at_call 154;refine(aa.out _ U.out).mono ?_;rintro e a2 ⟨⟨an,⟨aq,al,ak⟩,gt,aj,⟨ao,gk,gc⟩⟩,rfl,ac⟩;dsimp only)|(go_at_call 153;refine(ab.out _ _ ac).mono ?_;rintro e a3 ⟨rfl,ad⟩;dsimp only))
 (try simp only[Exit.inBlock,Exit.then]);(first|refine qv rfl rfl ?_|refine qw rfl rfl ?_)
 exact⟨rfl,ad.dropF⟩
theorem ze1 (w0:World) (g:Nat) (i:Ins) (at' : Nat) (x:Pv) (d:Pd) (A:List zg) (D:List zl) (w:World) (p:Pg) (h:Stp w0 g i at' x [] false false A D w) (ok:qV w0 x d) (P:yU p i) (hf:jQ i=false) (t:qq p d) (ha:at' < d.fields.length) (ab:at'<=1000000) (hk:i.kind=11):qf w0 g i at' x d A D w:=by
 unfold qf;rw[show zJ i at' d=⟨[((at' : Int)+1,K5 d at' i.to.toNat)],false,false⟩ by unfold zJ;rw[if_neg (by omega),if_pos hk]];obtain⟨C,I⟩:=idx (P.to (by rw[hk];decide)) t.r.vars;have T:=za (fun j U=>zbQ w0 g i at' x d [] false false A D j i.to.toNat U ok C I (by simp) ab ha (ok.few.rows _ ha));have R:=za h;obtain⟨⟨sp,aq,an⟩,af,ad,o,J⟩:=h;have ac:=za o;clear o ok;clear C I P t hf ha;generalize K5 d at' i.to.toNat=ao at *;obtain⟨aj,al,ag,ah,ak,ai⟩:=i;obtain⟨ay,⟨az,a0,au⟩,⟨ax,aw,av⟩⟩:=x;dsimp only at hk;subst hk;go_enter func107,ntmps107;go_wp2_with (first|(with_reducible first|refine lld J ?_|((first|refine lbx J ?_|refine lal J ?_|refine lbs J ?_);clear J;intro ae j J)|(refine zc J ?_;clear J;intro j J))|(go_at_call 155;refine(T.out _ R.out).mono ?_;rintro e ar ⟨rfl,aa⟩;dsimp only))
 (try simp only[Exit.inBlock,Exit.then]);(first|refine qv rfl rfl ?_|refine qw rfl rfl ?_)
 exact⟨rfl,aa⟩
theorem ze2 (w0:World) (o:Nat) (i:Ins) (at' : Nat) (x:Pv) (d:Pd) (A:List zg) (D:List zl) (w:World) (p:Pg) (h:Stp w0 o i at' x [] false false A D w) (ok:qV w0 x d) (j:yU p i) (hf:jQ i=false) (g:qq p d) (ha:at' < d.fields.length) (ae:at'<=1000000) (hk:i.kind=12):qf w0 o i at' x d A D w:=by
 unfold qf;rw[show zJ i at' d=⟨jK d at' i.to.toNat (qQ d i.n.toNat (d.var i.a.toNat).l),jJ (d.var i.a.toNat),false⟩ by unfold zJ;rw[if_neg (by omega),if_neg (by omega),if_pos hk]];obtain⟨T,U⟩:=idx (j.to (by rw[hk];decide)) g.r.vars;obtain⟨P,t⟩:=idx (j.a (by rw[hk];decide)) g.r.vars;have R:i.n=(i.n.toNat:Int):=by have:=j.f (.inl hk);omega
 have ab:=za (fun C ac=>zgu w0 o i at' x d [] false false A D C i.a.toNat i.n.toNat i.to.toNat ac ok P t R T U (g.sites (by have:=j.f (.inl hk);omega) t) (fun k _=>by have:=(jH.get g.fews i.n.toNat ((d.var i.a.toNat).l.take k) Kk jH.noth).le;unfold qQ;omega) (by simp) ae);have aa:=za h;obtain⟨⟨sp,av,ar⟩,ai,ag,I,J⟩:=h;have af:=za I;clear I ok;clear T U j g hf ha R P t;generalize jK d at' i.to.toNat (qQ d i.n.toNat (d.var i.a.toNat).l)=au at *;generalize jJ (d.var i.a.toNat)=ax at *;obtain⟨an,aq,aj,ak,ao,al⟩:=i;obtain⟨a2,⟨a3,a4,ay⟩,⟨a1,a0,az⟩⟩:=x;dsimp only at hk;subst hk;go_enter func107,ntmps107;go_wp2_with (first|(with_reducible first|refine lld J ?_|((first|refine lbx J ?_|refine lal J ?_|refine lbs J ?_);clear J;intro ah C J)|(refine zc J ?_;clear J;intro C J))|(go_at_call 156;refine(ab.out _ aa.out).mono ?_;rintro e aw ⟨rfl,ad⟩;dsimp only))
 (try simp only[Exit.inBlock,Exit.then]);(first|refine qv rfl rfl ?_|refine qw rfl rfl ?_)
 exact⟨rfl,ad⟩
theorem ze3 (w0:World) (o:Nat) (i:Ins) (at' : Nat) (x:Pv) (d:Pd) (A:List zg) (D:List zl) (w:World) (p:Pg) (h:Stp w0 o i at' x [] false false A D w) (ok:qV w0 x d) (hr:yU p i) (hf:jQ i=false) (g:qq p d) (ha:at' < d.fields.length) (ae:at'<=1000000) (hk:i.kind=13):qf w0 o i at' x d A D w:=by
 unfold qf;rw[show zJ i at' d=⟨if (d.var i.a.toNat).l=[] then [] else [((at' : Int)+1,yM d i.n.toNat (d.var i.b.toNat) (d.var i.a.toNat).l)],jJ (d.var i.a.toNat),false⟩ by unfold zJ;rw[if_neg (by omega),if_neg (by omega),if_neg (by omega),if_pos hk]];obtain⟨T,P⟩:=idx (hr.b (by rw[hk];decide)) g.r.vars;obtain⟨R,t⟩:=idx (hr.a (by rw[hk];decide)) g.r.vars;have U:i.n=(i.n.toNat:Int):=by have:=hr.f (.inr hk);omega
 have ab:=za (fun C ac=>zeZ w0 o i at' x d [] false false A D C i.a.toNat i.n.toNat i.b.toNat ac ok R t U T P (g.sites (by have:=hr.f (.inr hk);omega) t) (by omega) (by have:=(g.var i.b.toNat).le;omega) (fun j m _ _=>by have:=(jH.put i.n.toNat (g.var i.b.toNat) ((d.var i.a.toNat).l.take j) d g.fews m i.n.toNat).le;omega) (by simp) ae);have aa:=za h;obtain⟨⟨sp,aw,au⟩,aj,ah,I,J⟩:=h;have ag:=za I;clear I ok;clear P hr g hf ha U R t T;generalize (if (d.var i.a.toNat).l=[] then [] else [((at' : Int)+1,yM d i.n.toNat (d.var i.b.toNat) (d.var i.a.toNat).l)])=av at *;generalize jJ (d.var i.a.toNat)=ay at *;obtain⟨ao,ar,ak,al,aq,an⟩:=i;obtain⟨a3,⟨a4,a5,az⟩,⟨a2,a1,a0⟩⟩:=x;dsimp only at hk;subst hk;go_enter func107,ntmps107;go_wp2_with (first|(with_reducible first|refine lld J ?_|((first|refine lbx J ?_|refine lal J ?_|refine lbs J ?_);clear J;intro ai C J)|(refine zc J ?_;clear J;intro C J))|(go_at_call 157;refine(ab.out _ aa.out).mono ?_;rintro e ax ⟨rfl,ad⟩;dsimp only))
 (try simp only[Exit.inBlock,Exit.then]);(first|refine qv rfl rfl ?_|refine qw rfl rfl ?_)
 exact⟨rfl,ad⟩
theorem ze4 (w0:World) (g:Nat) (i:Ins) (at' : Nat) (x:Pv) (d:Pd) (A:List zg) (D:List zl) (w:World) (p:Pg) (h:Stp w0 g i at' x [] false false A D w) (ok:qV w0 x d) (T:yU p i) (hf:jQ i=false) (R:qq p d) (ha:at' < d.fields.length) (ad:at'<=1000000) (hk:i.kind=16):qf w0 g i at' x d A D w:=by
 unfold qf;rw[show zJ i at' d=⟨[(i.goto,d)],false,false⟩ by unfold zJ;rw[if_neg (by omega),if_neg (by omega),if_neg (by omega),if_neg (by omega),if_neg (by omega),if_neg (by omega),if_pos hk]];have C:=za (fun j I=>(show Calls prog 162 #[.pointer (some ⟨g,0,none⟩),.int .i64 (i.goto),.func (.func 163) #[] #[]] j _ from JR w0 g i at' x d d [] false false A D j (i.goto) 163 [] zgw I ok.x ok.n ok.few ok.own ok.n ok.m (by simp) (zbR w0 g i at' x false false A D d)));have t:=za h;obtain⟨⟨sp,al,ak⟩,ac,aa,o,J⟩:=h;have U:=za o;clear o ok;clear T R hf ha;obtain⟨ah,aj,ae,af,ai,ag⟩:=i;obtain⟨av,⟨aw,ax,ao⟩,⟨au,ar,aq⟩⟩:=x;dsimp only at hk;subst hk;go_enter func107,ntmps107;go_wp2_with (first|(with_reducible first|refine lld J ?_|((first|refine lbx J ?_|refine lal J ?_|refine lbs J ?_);clear J;intro ab j J)|(refine zc J ?_;clear J;intro j J))|(go_at_call 162;refine(C.out _ t.out).mono ?_;rintro e an ⟨rfl,P⟩;dsimp only))
 (try simp only[Exit.inBlock,Exit.then]);(first|refine qv rfl rfl ?_|refine qw rfl rfl ?_)
 exact⟨rfl,P⟩
theorem ze5 (w0:World) (g:Nat) (i:Ins) (at' : Nat) (x:Pv) (d:Pd) (A:List zg) (D:List zl) (w:World) (p:Pg) (h:Stp w0 g i at' x [] false false A D w) (ok:qV w0 x d) (T:yU p i) (hf:jQ i=false) (R:qq p d) (ha:at' < d.fields.length) (ad:at'<=1000000) (hk:i.kind=18):qf w0 g i at' x d A D w:=by
 unfold qf;rw[show zJ i at' d=⟨[((at' : Int)+1,d)],false,false⟩ by unfold zJ;rw[if_neg (by omega),if_neg (by omega),if_neg (by omega),if_neg (by omega),if_neg (by omega),if_neg (by omega),if_neg (by omega),if_pos hk]];have C:=za (fun j I=>(show Calls prog 162 #[.pointer (some ⟨g,0,none⟩),.int .i64 ((at' : Int)+1),.func (.func 164) #[] #[]] j _ from JR w0 g i at' x d d [] false false A D j ((at' : Int)+1) 164 [] zgx I ok.x ok.n ok.few ok.own ok.n ok.m (by simp) (zbS w0 g i at' x false false A D d)));have t:=za h;obtain⟨⟨sp,al,ak⟩,ac,aa,o,J⟩:=h;have U:=za o;clear o ok;clear T R hf ha;obtain⟨ah,aj,ae,af,ai,ag⟩:=i;obtain⟨av,⟨aw,ax,ao⟩,⟨au,ar,aq⟩⟩:=x;dsimp only at hk;subst hk;go_enter func107,ntmps107;go_wp2_with (first|(with_reducible first|refine lld J ?_|((first|refine lbx J ?_|refine lal J ?_|refine lbs J ?_);clear J;intro ab j J)|(refine zc J ?_;clear J;intro j J))|(go_at_call 162;refine(C.out _ t.out).mono ?_;rintro e an ⟨rfl,P⟩;dsimp only))
 (try simp only[Exit.inBlock,Exit.then]);(first|refine qv rfl rfl ?_|refine qw rfl rfl ?_)
 exact⟨rfl,P⟩
theorem ze6 (w0:World) (g:Nat) (i:Ins) (at' : Nat) (x:Pv) (d:Pd) (A:List zg) (D:List zl) (w:World) (p:Pg) (h:Stp w0 g i at' x [] false false A D w) (ok:qV w0 x d) (C:yU p i) (hf:jQ i=false) (t:qq p d) (ha:at' < d.fields.length) (aa:at'<=1000000) (hk:i.kind=19):qf w0 g i at' x d A D w:=by
 unfold qf;rw[show zJ i at' d=⟨[],false,false⟩ by unfold zJ;rw[if_neg (by omega),if_neg (by omega),if_neg (by omega),if_neg (by omega),if_neg (by omega),if_neg (by omega),if_neg (by omega),if_neg (by omega),if_pos hk]];have o:=za h;obtain⟨⟨sp,ai,ah⟩,U,R,j,J⟩:=h;have P:=za j;clear j ok;clear C t hf ha;obtain⟨ae,ag,ab,ac,af,ad⟩:=i;obtain⟨ao,⟨aq,ar,aj⟩,⟨an,al,ak⟩⟩:=x;dsimp only at hk;subst hk;go_enter func107,ntmps107;go_wp2_with (with_reducible first|refine lld J ?_|((first|refine lbx J ?_|refine lal J ?_|refine lbs J ?_);clear J;intro T I J)|(refine zc J ?_;clear J;intro I J))
 (try simp only[Exit.inBlock,Exit.then]);(first|refine qv rfl rfl ?_|refine qw rfl rfl ?_)
 exact⟨rfl,o.out⟩
end Go.Proofs.YtplcndmdkabmeaaGreatDoor
