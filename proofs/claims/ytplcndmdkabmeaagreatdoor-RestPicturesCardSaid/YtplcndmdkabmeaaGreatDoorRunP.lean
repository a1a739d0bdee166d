/- The walks over the machine's step at fields of things, and at the program's end. Conditions: what a right program and a right run have. -/
import Derived.Test.YtplcndmdkabmeaaGreatDoorRunO
set_option linter.unusedSimpArgs false
set_option linter.unusedVariables false
set_option maxRecDepth 100000
set_option maxHeartbeats 3000000
namespace Go.Proofs.YtplcndmdkabmeaaGreatDoor
open Go.Proofs.Tryz
open Go.RowKit
theorem QR {g:Type}(x:g) (A B C:List g):(x::(A++(B++C))).Perm (A++(B++([x]++C))):=by
 rw[<- List.append_assoc,<- List.append_assoc A B];exact(List.perm_middle (l₁:=A++B) (a:=x) (l₂:=C)).symm
theorem G8 {g:Type}(x a b c d:g) (R:List g):(a::b::c::d::x::R).Perm (x::a::b::c::d::R):=List.perm_middle (l₁:=[a,b,c,d])
theorem yE.cell {r:Rn}{s:Rs}{g:List Th}{Rv t o:List zg}{gt:Nat}{i:List Value}{kk:Nat}(h:yE r s g Rv [(gt,79,i)] t o) (hk:kk<g.length):
  zn prog 42 i (kk*2+1) (.slice (g.getD kk dTh).fs.p (g.getD kk dTh).fs.n (g.getD kk dTh).fs.cap):=by
 have I:=h.things.flatlen zez (by decide);have C:=h.things.elem zez dTh (k:=kk) (by omega);refine zn.cell Jz ?_;have j:((i.drop (kk*2)).take 2)[1]? = (Th.cells (g.getD kk dTh))[1]? :=by rw[C]
 rw[List.getElem?_take,if_pos (by decide),List.getElem?_drop]at j;exact j
def UO (kk f:Nat) (v:Vl) (s:Rs):Rs:={ s with things:=s.things.set kk ((s.thing kk).1,(s.thing kk).2.set f v),at':=s.at' + 1 }
theorem zeI (w0:World) (bm:Nat) (p:Pg) (ins:Sl) (s:Rs) (w:World) (h:zY w0 bm p ins s w) (hk:s.at'=p.n):
  Calls prog 47 #[.pointer (some ⟨bm,0,none⟩)] w fun e ad=>e=.returned (.tuple #[])∧zY w0 bm p ins { s with ending:=1 } ad:=by
 obtain⟨r,ac,I,C,t,o,g,J⟩:=h;have i:r.at'=(p.n:Int):=g.a.trans hk;have j:=za g;clear g hk;obtain⟨ab,U,R,aa,T⟩:=p;obtain⟨ae,aj,ai,ag,ah,af⟩:=r;dsimp only at i;subst i;go_enter func47,ntmps47;go_upto_region 0 with(fail)
 refine zb [5,6,7,8,9,10,11,12,13,14,15,16] ?_
 iterate 12 refine qdv ?_
 refine dnd J ?_;clear J;intro ak J;simp only[zr,sTa,sTb];go_wp2_with (first|fail|(go_at_call 48;refine(Qt w0 bm ⟨ab,U,R,aa,T⟩ ins s 1 _ ⟨_,ac,I,C,t,o,j.out,J⟩).mono ?_;rintro e al ⟨rfl,P⟩;dsimp only))
 (try simp only[Exit.inBlock,Exit.then]);(first|refine qv rfl rfl ?_|refine qw rfl rfl ?_)
 exact⟨rfl,P⟩
theorem zbz (w0:World) (bm:Nat) (p:Pg) (is:Nat->Ins) (ins:Sl) (s:Rs) (k:Nat) (a:Nat) (to:Int) (aw:Int) (num goto:Int) (w:World) (h:zY w0 bm p ins s w) (hk:s.at'=k) (hkn:k<p.n) (hk6:p.n<=60) (hc:zy w0 p is) (hv:0<s.vars.length) (hi:is k=⟨12,to,(a:Int),aw,num,goto⟩) (ha:a<s.vars.length) (hn:(s.val a).kind≠3):
  Calls prog 47 #[.pointer (some ⟨bm,0,none⟩)] w fun e i=>e=.returned (.tuple #[])∧zY w0 bm p ins ({ s with ending:=2 }) i:=by
 obtain⟨r,a1,a4,I,C,t,hR,J⟩:=h;have av:=hR.vars.flatlen jc (by decide);obtain⟨U,R,af,rfl,au,ar⟩:=hR.vars.block (by omega);simp only[aX]at J;have aj:=za ha;have aa:0<=s.at'∧s.at'<=1000000:=by omega
 have a3:=za aa;have ag:r.at'=(k:Int):=hR.a.trans hk;have an:=za hR;have ak:=za (fun (i : World) (J:Loc w0 i ((bm,100,q8 p r ins)::(U,77,R)::(I++(C++t))) [])=>(⟨r,a1,[(U,77,R)],I,C,t,an.out,J⟩:zY w0 bm p ins s i));obtain⟨ao,ax,ad,ac⟩:=hc.reads;have ae:=ad (by omega);have j:=ac k hkn;rw[hi]at j;have o:=za j;have al:=za hn;clear hn;clear hR av au ar ac ad j hi hc hk aa ha;obtain⟨a0,az,a8,ai,ay⟩:=p;dsimp only at ae hkn hk6;subst ae;obtain⟨a9,⟨aH,aF,aE⟩,aD,aB,aC,aA⟩:=r;dsimp only at af ag;subst af;subst ag;have a7:((k:Int)==(ai:Int))=false:=by simp;omega
 go_enter func47,ntmps47;go_upto_region 0 with(fail)
 refine zb [5,6,7,8,9,10,11,12,13,14,15,16] ?_
 iterate 12 refine qdv ?_
 refine dnd J ?_;clear J;intro a2 J;simp only[zr,sTa,sTb];go_upto_region 2 with(fail)
 refine zb [19,20,21,22,23,24,25,26,27,28,29,30,2] ?_
 iterate 11 refine qdv ?_
 refine qdl o.out ?_;refine qdp ?_;refine qy J ?_;intro g aI ab hR q;simp only[aG]at q;obtain⟨a5,ah,T,P⟩:=qye hR 12;clear hR;simp only[fD];simp only[q,T];clear q T;replace J:=J.gain ab ah P;clear ah P;clear ab;clear o;go_wp2_with (first|(with_reducible first|refine lld J ?_|(refine zc J ?_;clear J;intro a2 J))|(go_at_call 93;refine(zbj w0 bm ⟨a0,az,some ⟨ao,ax,none⟩,ai,ay⟩ ins s ⟨_,_,_,_,_,_⟩ a _ (ak.out _ (J.drop (by repeat (first|exact List.Sublist.refl _|apply List.Sublist.cons)) (fun _ h=>h))) rfl aj.out al.out).mono ?_;rintro e aJ ⟨rfl,aq⟩;dsimp only))
 (try simp only[Exit.inBlock,Exit.then]);(first|refine qv rfl rfl ?_|refine qw rfl rfl ?_)
 exact⟨rfl,aq⟩
theorem zbA (w0:World) (bm:Nat) (p:Pg) (is:Nat->Ins) (ins:Sl) (s:Rs) (k:Nat) (a:Nat) (to:Int) (aw:Int) (num goto:Int) (w:World) (h:zY w0 bm p ins s w) (hk:s.at'=k) (hkn:k<p.n) (hk6:p.n<=60) (hc:zy w0 p is) (hv:0<s.vars.length) (hi:is k=⟨13,to,(a:Int),aw,num,goto⟩) (ha:a<s.vars.length) (hn:(s.val a).kind≠3):
  Calls prog 47 #[.pointer (some ⟨bm,0,none⟩)] w fun e i=>e=.returned (.tuple #[])∧zY w0 bm p ins ({ s with ending:=2 }) i:=by
 obtain⟨r,a1,a4,I,C,t,hR,J⟩:=h;have av:=hR.vars.flatlen jc (by decide);obtain⟨U,R,af,rfl,au,ar⟩:=hR.vars.block (by omega);simp only[aX]at J;have aj:=za ha;have aa:0<=s.at'∧s.at'<=1000000:=by omega
 have a3:=za aa;have ag:r.at'=(k:Int):=hR.a.trans hk;have an:=za hR;have ak:=za (fun (i : World) (J:Loc w0 i ((bm,100,q8 p r ins)::(U,77,R)::(I++(C++t))) [])=>(⟨r,a1,[(U,77,R)],I,C,t,an.out,J⟩:zY w0 bm p ins s i));obtain⟨ao,ax,ad,ac⟩:=hc.reads;have ae:=ad (by omega);have j:=ac k hkn;rw[hi]at j;have o:=za j;have al:=za hn;clear hn;clear hR av au ar ac ad j hi hc hk aa ha;obtain⟨a0,az,a8,ai,ay⟩:=p;dsimp only at ae hkn hk6;subst ae;obtain⟨a9,⟨aH,aF,aE⟩,aD,aB,aC,aA⟩:=r;dsimp only at af ag;subst af;subst ag;have a7:((k:Int)==(ai:Int))=false:=by simp;omega
 go_enter func47,ntmps47;go_upto_region 0 with(fail)
 refine zb [5,6,7,8,9,10,11,12,13,14,15,16] ?_
 iterate 12 refine qdv ?_
 refine dnd J ?_;clear J;intro a2 J;simp only[zr,sTa,sTb];go_upto_region 2 with(fail)
 refine zb [19,20,21,22,23,24,25,26,27,28,29,30,2] ?_
 iterate 11 refine qdv ?_
 refine qdl o.out ?_;refine qdp ?_;refine qy J ?_;intro g aI ab hR q;simp only[aG]at q;obtain⟨a5,ah,T,P⟩:=qye hR 12;clear hR;simp only[fD];simp only[q,T];clear q T;replace J:=J.gain ab ah P;clear ah P;clear ab;clear o;go_wp2_with (first|(with_reducible first|refine lld J ?_|(refine zc J ?_;clear J;intro a2 J))|(go_at_call 93;refine(zbj w0 bm ⟨a0,az,some ⟨ao,ax,none⟩,ai,ay⟩ ins s ⟨_,_,_,_,_,_⟩ a _ (ak.out _ (J.drop (by repeat (first|exact List.Sublist.refl _|apply List.Sublist.cons)) (fun _ h=>h))) rfl aj.out al.out).mono ?_;rintro e aJ ⟨rfl,aq⟩;dsimp only))
 (try simp only[Exit.inBlock,Exit.then]);(first|refine qv rfl rfl ?_|refine qw rfl rfl ?_)
 exact⟨rfl,aq⟩
theorem G9 (w0:World) (bm:Nat) (p:Pg) (is:Nat->Ins) (ins:Sl) (s:Rs) (k:Nat) (t:Nat) (be:Int) (a kk f:Nat) (goto:Int) (w:World) (h:zY w0 bm p ins s w) (hk:s.at'=k) (hkn:k<p.n) (hk6:p.n<=60) (hc:zy w0 p is) (hv:0<s.vars.length) (hi:is k=⟨12,(t:Int),(a:Int),be,(f:Int),goto⟩) (ht:t<s.vars.length) (ha:a<s.vars.length)
  (h3:s.val a=⟨3,(kk:Int)⟩) (hkk:kk<s.things.length) (hf:f<(s.thing kk).2.length):
  Calls prog 47 #[.pointer (some ⟨bm,0,none⟩)] w fun e U=>e=.returned (.tuple #[])∧zY w0 bm p ins (s.set t (s.field kk f)) U:=by
 replace hf:f<(s.things.getD kk dT).2.length:=hf;obtain⟨r,ab,b0,bz,o,bx,hR,J⟩:=h;have bd:=hR.vars.flatlen jc (by decide);have bc:=hR.things.flatlen zez (by decide);have aU:=hR.fields.len;obtain⟨I,i,aA,rfl,aZ,aW⟩:=hR.vars.block (by omega);obtain⟨gt,C,a9,rfl,ba,aY⟩:=hR.things.block (by omega);have ac:=hR.cell (kk:=kk) (by omega);obtain⟨P,R,Rb,rfl,aC,aa,a1⟩:=hR.fields.get dTh kk (by omega);have aV:=aa.flatlen jc (by decide);obtain⟨T,j,a8,rfl,bb,a5⟩:=aa.block (by omega);simp only[aX]at J;replace J:=J.perm ((((QR (T,77,j) o P Rb).cons (gt,79,C)).cons (I,77,i)).cons _);obtain⟨aJ,ad⟩:∃ x,x=s.val a:=⟨_,rfl⟩;have aj:=za (show zn prog 77 i (a*2) aJ.v by rw[ad];exact zn.agg jk (hR.vars.elem jc dV (k:=a) (by omega)) rfl);have bu:=za ad;have ay:a<r.vars.n:=by omega
 have aS : aJ=⟨3,(kk:Int)⟩:=ad.trans h3;subst aS;obtain⟨aK,ah⟩:∃ x,x=s.field kk f:=⟨_,rfl⟩;have al:=za (show zn prog 77 j (f*2) aK.v by rw[ah];exact zn.agg jk (aa.elem jc dV (k:=f) (by omega)) rfl);have aQ:=za ah;clear ah;rw[a8]at ac;have af:f<(ab.getD kk dTh).fs.n:=by omega
 have ao:=za (fun v=>aa.put jc dV (k:=f) af v);have ak:=za a1;have aO:=za aC;have a4:kk<r.things.n:=by omega
 have bv:=za (show f*2+2<=j.length by have:=aa.fits;rw[a5];omega);obtain⟨fn,ag⟩:∃ x,x=(ab.getD kk dTh).fs.n:=⟨_,rfl⟩;obtain⟨aR,a3⟩:∃ x,x=(ab.getD kk dTh).fs.cap:=⟨_,rfl⟩;rw[<- ag,<- a3]at ac;rw[<- ag]at af;have ar:=za ac;have aP:=za ht;have az:0<=s.at'∧s.at'<=1000000:=by omega
 have aL:=za az;have aB:r.at'=(k:Int):=hR.a.trans hk;have aq:=za hR;have aM:=za (fun (U : World) (J:Loc w0 U ((bm,100,q8 p r ins)::(I,77,i)::(gt,79,C)::(T,77,j)::(o++(P++Rb))) [])=>
  (⟨r,ab,[(I,77,i)],[(gt,79,C)],o,_,aq.out,J.perm ((((QR (T,77,j) o P Rb).symm.cons (gt,79,C)).cons (I,77,i)).cons _)⟩:zY w0 bm p ins s U))
 have aN:=za (fun (v:Vl) (U : World) (J:Loc w0 U ((bm,100,q8 p { r with at':=(k:Int)+1 } ins)::(I,77,i)::(gt,79,C)::(T,77,zj j (f*2) v.cells)::(o++(P++Rb))) [])=>
  (⟨{ r with at':=(k:Int)+1 },ab,[(I,77,i)],[(gt,79,C)],o,P++([(T,77,zj j (f*2) v.cells)]++Rb),(by
   obtain⟨bf,bg,bh,b4,b5,bi,bj⟩:=aq.out;refine⟨bf,bg,bh,?_,by show (k:Int)+1=s.at' + 1;rw[hk],bi,bj⟩;show yh ab (s.things.set kk ((s.thing kk).1,(s.thing kk).2.set f v)) _
   have:=ak.out _ _ (ao.out v);rw[<- aO.out]at this;exact this),J.perm ((((QR (T,77,zj j (f*2) v.cells) o P Rb).symm.cons (gt,79,C)).cons (I,77,i)).cons _)⟩:zY w0 bm p ins (UO kk f v s) U))
 obtain⟨au,aD,a6,a2⟩:=hc.reads;have a7:=a6 (by omega);have ae:=a2 k hkn;rw[hi]at ae;have an:=za ae;clear ac a1 aC aa aV aZ ba bb aW aY a5 aU bc hR bd a2 a6 ae hi hc hk az h3 ad a8 ag a3 ha ht;obtain⟨aI,aH,b6,ai,aF⟩:=p;dsimp only at a7 hkn hk6;subst a7;obtain⟨b7,⟨b9,br,bq⟩,⟨b8,bp,bo⟩,bl,bn,bk⟩:=r;dsimp only at aA a9 aB a4 ay;subst aA;subst a9;subst aB;have b3:((k:Int)==(ai:Int))=false:=by simp;omega
 go_enter func47,ntmps47;go_upto_region 0 with(fail)
 refine zb [5,6,7,8,9,10,11,12,13,14,15,16] ?_
 iterate 12 refine qdv ?_
 refine dnd J ?_;clear J;intro bs J;simp only[zr,sTa,sTb];go_upto_region 2 with(fail)
 refine zb [19,20,21,22,23,24,25,26,27,28,29,30,2] ?_
 iterate 11 refine qdv ?_
 refine qdl an.out ?_;refine qdp ?_;refine qy J ?_;intro g bA a0 hR q;simp only[aG]at q;obtain⟨b1,aE,aw,av⟩:=qye hR 12;clear hR;simp only[fD];simp only[q,aw];clear q aw;replace J:=J.gain a0 aE av;clear aE av;clear a0;clear an;go_upto_region 27 with(first|(with_reducible first|refine lld J ?_|(refine zc J ?_;clear J;intro bs J))|(go_at_call 93;refine(Gd w0 bm I gt T ⟨aI,aH,some ⟨au,aD,none⟩,ai,aF⟩ ins (k:Int) br bq bp bo fn aR bl bn bk i C j (_::(o++(P++Rb))) ⟨_,_,_,_,_,_⟩ a kk f _ (J.perm (G8 _ _ _ _ _ _)) ⟨rfl,rfl⟩ ay a4 af aj.out ar.out).mono ?_;rintro e bt ⟨rfl,ax⟩;replace J:=ax;clear ax;dsimp only))
 clear aj ar ao ak aN;refine zb [141,142,143,144,145,146] ?_
 iterate 5 refine qdv ?_
 refine yT al.out ?_;refine dnd J ?_;clear J;intro bB J;simp only[zr,sTa,sTb];clear al;go_wp2_with (first|fail|(go_at_call 88;refine(j6 w0 bm ⟨aI,aH,some ⟨au,aD,none⟩,ai,aF⟩ ins s t aK _ (aM.out _ (J.drop (List.Sublist.cons_cons _ (.cons_cons _ (.cons_cons _ (.cons_cons _ (List.sublist_cons_self _ _))))) (fun _ h=>h))) aP.out aL.out).mono ?_;rintro e bt ⟨rfl,aT⟩;dsimp only))
 (try simp only[Exit.inBlock,Exit.then]);(first|refine qv rfl rfl ?_|refine qw rfl rfl ?_)
 have h:=aT;rw[aQ.out]at h;exact⟨rfl,h⟩
theorem zaa (w0:World) (bm:Nat) (p:Pg) (is:Nat->Ins) (ins:Sl) (s:Rs) (k:Nat) (to:Int) (b:Nat) (a kk f:Nat) (goto:Int) (w:World) (h:zY w0 bm p ins s w) (hk:s.at'=k) (hkn:k<p.n) (hk6:p.n<=60) (hc:zy w0 p is) (hv:0<s.vars.length) (hi:is k=⟨13,to,(a:Int),(b:Int),(f:Int),goto⟩) (hb:b<s.vars.length) (ha:a<s.vars.length)
  (h3:s.val a=⟨3,(kk:Int)⟩) (hkk:kk<s.things.length) (hf:f<(s.thing kk).2.length):
  Calls prog 47 #[.pointer (some ⟨bm,0,none⟩)] w fun e P=>e=.returned (.tuple #[])∧zY w0 bm p ins (UO kk f (s.val b) s) P:=by
 replace hf:f<(s.things.getD kk dT).2.length:=hf;obtain⟨r,aa,b0,bz,o,bx,hR,J⟩:=h;have aZ:=hR.vars.flatlen jc (by decide);have aY:=hR.things.flatlen zez (by decide);have aQ:=hR.fields.len;obtain⟨I,i,a8,rfl,aU,aS⟩:=hR.vars.block (by omega);obtain⟨gt,t,a7,rfl,aV,aT⟩:=hR.things.block (by omega);have ab:=hR.cell (kk:=kk) (by omega);obtain⟨Ra,R,T,rfl,aA,U,az⟩:=hR.fields.get dTh kk (by omega);have aR:=U.flatlen jc (by decide);obtain⟨C,j,a6,rfl,aW,a3⟩:=U.block (by omega);simp only[aX]at J;replace J:=J.perm ((((QR (C,77,j) o Ra T).cons (gt,79,t)).cons (I,77,i)).cons _);obtain⟨aD,ac⟩:∃ x,x=s.val a:=⟨_,rfl⟩;have aj:=za (show zn prog 77 i (a*2) aD.v by rw[ac];exact zn.agg jk (hR.vars.elem jc dV (k:=a) (by omega)) rfl);have bt:=za ac;have ax:a<r.vars.n:=by omega
 obtain⟨ad,ah⟩:∃ x,x=s.val b:=⟨_,rfl⟩;have ak:=za (show zn prog 77 i (b*2) ad.v by rw[ah];exact zn.agg jk (hR.vars.elem jc dV (k:=b) (by omega)) rfl);have aF:=za ah;have aP:b<r.vars.n:=by omega
 have aO : aD=⟨3,(kk:Int)⟩:=ac.trans h3;subst aO;obtain⟨bq,ai⟩:∃ x,x=s.field kk f:=⟨_,rfl⟩;have aH:=za (show zn prog 77 j (f*2) bq.v by rw[ai];exact zn.agg jk (U.elem jc dV (k:=f) (by omega)) rfl);have bv:=za ai;clear ai;rw[a6]at ab;have af:f<(aa.getD kk dTh).fs.n:=by omega
 have ao:=za (fun v=>U.put jc dV (k:=f) af v);have al:=za az;have aL:=za aA;have a2:kk<r.things.n:=by omega
 have aI:=za (show f*2+2<=j.length by have:=U.fits;rw[a3];omega);obtain⟨fn,ag⟩:∃ x,x=(aa.getD kk dTh).fs.n:=⟨_,rfl⟩;obtain⟨aN,a1⟩:∃ x,x=(aa.getD kk dTh).fs.cap:=⟨_,rfl⟩;rw[<- ag,<- a1]at ab;rw[<- ag]at af;have ar:=za ab;have bu:=za hb;have ay:0<=s.at'∧s.at'<=1000000:=by omega
 have bs:=za ay;have a9:r.at'=(k:Int):=hR.a.trans hk;have aq:=za hR;have aJ:=za (fun (P : World) (J:Loc w0 P ((bm,100,q8 p r ins)::(I,77,i)::(gt,79,t)::(C,77,j)::(o++(Ra++T))) [])=>
  (⟨r,aa,[(I,77,i)],[(gt,79,t)],o,_,aq.out,J.perm ((((QR (C,77,j) o Ra T).symm.cons (gt,79,t)).cons (I,77,i)).cons _)⟩:zY w0 bm p ins s P))
 have aK:=za (fun (v:Vl) (P : World) (J:Loc w0 P ((bm,100,q8 p { r with at':=(k:Int)+1 } ins)::(I,77,i)::(gt,79,t)::(C,77,zj j (f*2) v.cells)::(o++(Ra++T))) [])=>
  (⟨{ r with at':=(k:Int)+1 },aa,[(I,77,i)],[(gt,79,t)],o,Ra++([(C,77,zj j (f*2) v.cells)]++T),(by
   obtain⟨ba,bb,bc,b4,b5,bd,be⟩:=aq.out;refine⟨ba,bb,bc,?_,by show (k:Int)+1=s.at' + 1;rw[hk],bd,be⟩;show yh aa (s.things.set kk ((s.thing kk).1,(s.thing kk).2.set f v)) _
   have:=al.out _ _ (ao.out v);rw[<- aL.out]at this;exact this),J.perm ((((QR (C,77,zj j (f*2) v.cells) o Ra T).symm.cons (gt,79,t)).cons (I,77,i)).cons _)⟩:zY w0 bm p ins (UO kk f v s) P))
 obtain⟨aM,bf,a4,a0⟩:=hc.reads;have a5:=a4 (by omega);have ae:=a0 k hkn;rw[hi]at ae;have an:=za ae;clear ab az aA U aR aU aV aW aS aT a3 aQ aY hR aZ a0 a4 ae hi hc hk ay h3 ac a6 ag a1 ha hb ah;obtain⟨bi,bh,b6,aC,bg⟩:=p;dsimp only at a5 hkn hk6;subst a5;obtain⟨b7,⟨b9,br,bp⟩,⟨b8,bo,bn⟩,bk,bl,bj⟩:=r;dsimp only at a8 a7 a9 a2 ax aP;subst a8;subst a7;subst a9;have b3:((k:Int)==(aC:Int))=false:=by simp;omega
 go_enter func47,ntmps47;go_upto_region 0 with(fail)
 refine zb [5,6,7,8,9,10,11,12,13,14,15,16] ?_
 iterate 12 refine qdv ?_
 refine dnd J ?_;clear J;intro aE J;simp only[zr,sTa,sTb];go_upto_region 2 with(fail)
 refine zb [19,20,21,22,23,24,25,26,27,28,29,30,2] ?_
 iterate 11 refine qdv ?_
 refine qdl an.out ?_;refine qdp ?_;refine qy J ?_;intro g bA hb hR q;simp only[aG]at q;obtain⟨b1,aB,av,au⟩:=qye hR 12;clear hR;simp only[fD];simp only[q,av];clear q av;replace J:=J.gain hb aB au;clear aB au;clear hb;clear an;go_upto_region 31 with(first|(with_reducible first|refine lld J ?_|(refine zc J ?_;clear J;intro aE J))|(go_at_call 93;refine(Gd w0 bm I gt C ⟨bi,bh,some ⟨aM,bf,none⟩,aC,bg⟩ ins (k:Int) br bp bo bn fn aN bk bl bj i t j (_::(o++(Ra++T))) ⟨_,_,_,_,_,_⟩ a kk f _ (J.perm (G8 _ _ _ _ _ _)) ⟨rfl,rfl⟩ ax a2 af aj.out ar.out).mono ?_;rintro e bB ⟨rfl,aw⟩;replace J:=aw;clear aw;dsimp only))
 clear aj ar ao al aJ aH;refine zb [155,156,157,158,159,160,161,162,163,164,165] ?_
 iterate 9 refine qdv ?_
 refine yT ak.out ?_;refine qdv ?_;refine dnd J ?_;clear J;intro bC J;simp only[zr,sTa,sTb];clear ak;go_wp2_with (first|(refine zR (b:=C) (off:=f*2) (vs:=ad.cells) (cs':=zj j (f*2) ad.cells) J rfl rfl cIn rfl jk.sz rfl aI.out rfl ?_;clear J;intro P J)|(with_reducible first|refine lld J ?_|(refine zc J ?_;clear J;intro aE J)))
 (try simp only[Exit.inBlock,Exit.then]);(first|refine qv rfl rfl ?_|refine qw rfl rfl ?_)
 have h:=aK.out ad _ (J.drop (List.Sublist.cons_cons _ (.cons_cons _ (.cons_cons _ (.cons_cons _ (List.sublist_cons_self _ _))))) (fun _ h=>h));rw[aF.out]at h;exact⟨rfl,h⟩
end Go.Proofs.YtplcndmdkabmeaaGreatDoor
