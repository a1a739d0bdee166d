/- The walks over solve.Raw and solve.Solve. Conditions: as in each theorem. | The walks over solve.Fits where something is wrong; pictures in memory as a list. Conditions: what they read lies in memory that was there. -/
import Derived.Test.YtplcndmdkabmeaaGreatDoorSolE
import Derived.Test.YtplcndmdkabmeaaGreatDoorSolD
import Derived.Test.YtplcndmdkabmeaaGreatDoorPicd
set_option linter.unusedSimpArgs false
set_option linter.unusedVariables false
set_option maxRecDepth 100000
set_option maxHeartbeats 4000000
namespace Go.Proofs.YtplcndmdkabmeaaGreatDoor
open Go.Proofs.Tryz
open Go.RowKit
abbrev j5:Pv:=⟨true,zi,zi⟩
theorem zq.none (w:World):zq w j5 zC:=⟨rfl,qR.zero w _ _,j3.zero w _ _,Nat.zero_le _⟩
theorem Jv {p:Pg}{is:Nat->Ins}{nv nf:Nat}(hv:p.vars=nv) (hf:p.fields=nf):zE p is (qM nv nf p.n)=0:=by
 have j:∀ k,k<p.n->(qM nv nf p.n).row k=List.replicate nf Qz:=fun k i=>by
  show (List.replicate p.n (List.replicate nf Qz)).getD k []=_
  rw[List.getD_eq_getElem?_getD,List.getElem?_replicate,if_pos i];rfl
 refine q2.right ⟨rfl,?_,?_,fun k i=>?_,fun t g=>?_,fun k i t g=>?_,fun k i _ t g=>?_⟩
 ·show ((List.replicate nv Yx).length:Int)=_
  rw[List.length_replicate,hv]
 ·exact List.length_replicate
 ·rw[j k i,List.length_replicate,hf]
 ·rw[(List.mem_replicate.1 g).2]
  exact⟨by decide,fun x o=>(by cases o),List.Pairwise.nil⟩
 ·rw[j k i]at g
  rw[(List.mem_replicate.1 g).2];exact⟨by decide,fun x o=>(by cases o),List.Pairwise.nil⟩
 ·rw[j k i]at g
  rw[(List.mem_replicate.1 g).2];rfl
def qd (nv nf g:Nat):List Pd:=qM nv nf g::List.replicate g zC
theorem Ub (nv nf g k:Nat):(qd nv nf g).getD (k+1) zC=zC:=by
 unfold qd;rw[List.getD_cons_succ,List.getD_eq_getElem?_getD,List.getElem?_replicate];split<;>rfl
theorem JU {p:Pg}{is:Nat->Ins}{nv nf:Nat}(hv:p.vars=nv) (hf:p.fields=nf):qE p is (qd nv nf p.n):=by
 refine⟨by simp[qd],fun k g=>?_⟩;cases k with
 | zero=>exact Jv hv hf
 | succ k=>rw[Ub];rfl
theorem zee (nv nf g:Nat) (r:Pv) (w:World) (h:zq w r (qM nv nf g)):yD (r::List.replicate g j5) (qd nv nf g) w:=by
 intro k i;cases k with
 | zero=>exact h
 | succ k=>
  rw[Ub,List.getD_cons_succ,List.getD_eq_getElem?_getD,List.getElem?_replicate,if_pos (by simpa [qd] using i)];exact zq.none w
theorem Uc (g:Pv):∀ n:Nat,(List.replicate n (Pv.cells g)).flatten=(List.replicate n g).flatMap Pv.cells
 | 0=>rfl
 | n+1=>by rw[List.replicate_succ,List.replicate_succ,List.flatten_cons,List.flatMap_cons,Uc g n]
def Kw (w w' : World) (s:Sl) (l:List Pd):Prop:=∃ (g:List Pv) (i:List zg),g.length=l.length∧zB 54 3 s.p s.n s.cap (g.flatMap Pv.cells) i∧Loc w w' i [yD g l]
def zef (g:World) (n:Nat):Value->World->Prop:=fun v w=>∃ r,v=.slice (some ⟨r,0,none⟩) n n∧Loc g w [(r,54,(List.replicate n j5.cells).flatten)] []
theorem zef.stable {o:World}{n:Nat}:qC (zef o n):=by
 rintro v w p j ⟨r,g,i⟩;exact⟨r,g,i.grow j⟩
def zaV (g:World) (p:Pg) (n:Nat):Value->World->Prop:=fun v w=>∃ r,v=.agg #[.int .i64 p.vars,.int .i64 p.fields,.slice p.pc p.n p.cap,.slice (some ⟨r,0,none⟩) n n]∧Loc g w [(r,54,(List.replicate n j5.cells).flatten)] []
theorem zaV.stable {o:World}{p:Pg}{n:Nat}:qC (zaV o p n):=by
 rintro v w t j ⟨r,g,i⟩;exact⟨r,g,i.grow j⟩
theorem zft (p:Pg) (is:Nat->Ins) (nv nf:Nat) (hv:p.vars=nv) (hf:p.fields=nf) (ac:zf p is=0) (w:World) (hc:zy w p is):
  Calls prog 64 #[p.v] w fun q o=>∃ (k:Nat) (s:Sl),q=.returned (.tuple #[.slice s.p s.n s.cap,.int .i64 ((k+1:Nat):Int)])∧Yi is p.n (qd nv nf p.n) k∧Kw w o s (y5 is p.n (qd nv nf p.n) (k+1)):=by
 have ao:=(zp ac).1;have aT:=ao.v2;have aU:=ao.f2;have aV:=ao.n1;have ag:=za (fun o=>Uh p nv nf hv hf (by omega) (by omega) (by omega) o);have a2:qE p is (qd nv nf p.n):=JU hv hf;have az:=za (fun (b:Nat) o hh=>(show Calls prog 110 #[.slice (some ⟨b,0,none⟩) 1 1,.int .i64 ((p.n:Int)+1)] o fun e I=>∃ r,e=.returned (.slice (some ⟨r,0,none⟩) (p.n+1) (p.n+1))∧Loc o I [(r,54,(List.replicate (p.n+1) j5.cells).flatten)] [] from zaZ j5.cells rfl (by decide) b (p.n+1) (by omega) o hh));have ay:=za (fun T aB k o (U:Jg w p T aB [] (y5 is p.n (qd nv nf p.n) k) o)=>(show Calls prog 111 #[.pointer (some ⟨T,0,none⟩),.int .i64 ((k+1:Nat):Int)] o (fun e I=>e=.returned (.bool (Zu is p.n (qd nv nf p.n) k))∧Jg w p T aB [] (y5 is p.n (qd nv nf p.n) (k+1)) I) from (zdO p is ac w hc T aB (k+1) _ (Jj ac a2 k) o U).mono fun e I h=>⟨h.1,h.2.1⟩));have ai:=za (fun k (h:∀ j,j<k->Zu is p.n (qd nv nf p.n) j=true)=>Vb ac a2 h);have ad:=za (zee nv nf p.n);have au:=za (y9 ac (Jv (is:=is) hv hf));have av:=za (show (qd nv nf p.n).length=p.n+1 by simp[qd]);have ah:=za (show y5 is p.n (qd nv nf p.n) 0=qd nv nf p.n from rfl);clear ao a2 hc ac;generalize qM nv nf p.n=fst at ag ad au;generalize qd nv nf p.n=af at ay ai ad av ah ⊢;clear aT aU;obtain⟨bi,bh,ar,i,aq⟩:=p;dsimp only at hv hf aV az ay ai ad av ag ah ⊢;subst hv hf;have J:=Loc.start w;go_enter func64,ntmps64;go_step;go_step;go_step
 ((with_reducible refine lbx J ?_);clear J;intro bc ab J)
 go_upto_region 1 with(with_reducible first|refine lld J ?_|((first|refine lbx J ?_|refine lal J ?_|refine lbs J ?_);clear J;intro aF ab J)|(refine zc J ?_;clear J;intro ab J))
 obtain⟨P,a3⟩:∃ x,x=ab:=⟨_,rfl⟩;subst a3;refine zb [6,7,8,9,10,11,12,13,14] ?_;refine qdv ?_;refine qdk J (fun _ C J=>XV _) ?_;refine qdw ?_
 iterate 4 refine qdv ?_
 refine qdn (zef P (i+1)) zef.stable J ?_ ?_
 ·intro g w C J y q;simp only[aG]at q;obtain⟨aP,a1,d2,f2⟩:=yr y 2;clear y;simp only[fD];simp only[q,d2]
  go_wp2_with (go_at_call 110;refine(az.out _ _ f2).mono ?_;rintro q aL ⟨r,rfl,aJ⟩;dsimp only);exact⟨rfl,_,rfl,aJ.below,r,rfl,Loc.since C aJ⟩
 refine qdn (zaV P ⟨nv,nf,ar,i,aq⟩ (i+1)) zaV.stable J ?_ ?_
 ·intro g w C J y q;simp only[aG]at q;have d7:(zef P (i+1)) (g 13) w:=yr y 7;obtain⟨aK,d7,aY⟩:=d7;clear y;simp only[fD];simp only[q,d7]
  go_wp2_with (fail);exact⟨rfl,_,rfl,Below.refl _ _,aK,rfl,aY⟩
 refine qy J ?_;intro g I C t q;simp only[aG]at q;obtain⟨aP,ba,a1,aQ⟩:=qye t 2;have ak:(zef P (i+1)) (g 13) I:=qye t 7;obtain⟨aK,ak,-⟩:=ak;have al:(zaV P ⟨nv,nf,ar,i,aq⟩ (i+1)) (g 14) I:=qye t 8;obtain⟨bp,al,aH⟩:=al;clear t;simp only[fD];simp only[q,a1,ak,al];clear q a1 ak al;clear ba aQ;replace J:=J.gave aH;simp only[aX]at J;clear aH;clear C;go_upto_region 2 with(with_reducible first|(refine lbx J ?_;clear J;intro T aL J)|refine lld J ?_|((first|refine lbx J ?_|refine lal J ?_|refine lbs J ?_);clear J;intro aF ab J)|(refine zc J ?_;clear J;intro ab J))
 have aw:=za (fun g=>(show zB 54 3 (some ⟨bp,0,none⟩) (i+1) (i+1) ((g::List.replicate i j5).flatMap Pv.cells) [(bp,54,zj (List.replicate (i+1) j5.cells).flatten 0 (Pv.cells g))] by rw[Uc];exact zB.put (E:=54) (g:=bp) Jy qJ (k:=0) (l:=List.replicate (i+1) j5) (zB.full (by rw[<- Uc,Q9 rfl]) (show i+1<=maxLen by have:maxLen=9223372036854775807:=rfl;omega)) (by omega) g));have a0:=za (show 0+3<=(List.replicate (i+1) j5.cells).flatten.length by rw[Q9 rfl];omega);generalize (List.replicate (i+1) j5.cells).flatten=aS at J aw a0;obtain⟨P,a3⟩:∃ x,x=aL:=⟨_,rfl⟩;subst a3;have bg:((0:Int)<((i+1:Nat):Int)):=by omega
 refine zb [16,17,18,19,20,21,22] ?_
 iterate 5 refine qdv ?_
 refine qdn (y4 P fst) y4.stable J ?_ ?_
 ·intro g w C J _ q;simp only[aG]at q;simp only[fD];simp only[q]
  go_wp2_with (go_at_call 96;refine(ag.out _).mono ?_;rintro q aM ⟨r,rfl,an⟩;dsimp only);exact⟨rfl,_,rfl,an.below,r,rfl,Loc.since C ((Loc.start _).gotP an au.out)⟩
 refine qdv ?_;refine qy J ?_;intro g aM C t q;simp only[aG]at q;have aj:(y4 P fst) (g 21) aM:=qye t 5;obtain⟨⟨a7,⟨a8,aA,a9⟩,⟨a6,a5,a4⟩⟩,aj,an⟩:=aj;clear t;simp only[fD];simp only[q,aj];clear q aj;replace J:=J.gave an;clear C;simp only[List.append_nil,aX]at J;go_upto_region 3 with(refine zR (b:=bp) (off:=0) (vs:=Pv.cells ⟨a7,⟨a8,aA,a9⟩,⟨a6,a5,a4⟩⟩) (cs':=zj aS 0 (Pv.cells ⟨a7,⟨a8,aA,a9⟩,⟨a6,a5,a4⟩⟩)) J rfl rfl cIn rfl Zj.sz rfl a0.out rfl ?_;clear J;intro o J)
 have U:Jg w ⟨nv,nf,ar,i,aq⟩ T ⟨some ⟨bp,0,none⟩,i+1,i+1⟩ [] (y5 is i af 0) o:=by
  refine⟨_,_,?_,aw.out ⟨a7,⟨a8,aA,a9⟩,⟨a6,a5,a4⟩⟩,?_⟩
  ·rw[ah.out,av.out];simp
  ·rw[ah.out]
   exact(J.turn (fun w h=>ad.out _ w h)).drop (.cons_cons _ (.cons _ (List.Sublist.refl _))) (fun _ h=>h)
 have aN:=za U;clear U J aw a0 ag az au ad;have J:=Loc.start o;go_wp2;go_loopw [5] (fun c wr=>∃ k:Nat,c=.int .i64 ((k+1:Nat):Int)∧(∀ j,j<k->Zu is i af j=true)∧Jg w ⟨nv,nf,ar,i,aq⟩ T ⟨some ⟨bp,0,none⟩,i+1,i+1⟩ [] (y5 is i af k) wr) (fun c _=>50000000000002 - (intOf c).toNat)
 case atStart=>exact⟨0,rfl,fun j aa=>absurd aa (Nat.not_lt_zero j),aN.out⟩
 case round=>
  obtain⟨k,rfl,aa,U⟩:=hrel;clear J;have aD:=za aa;have ax:=za (ay.out _ _ k _ U);have be:=ai.out k aa;have aE:=za (fun (h:Zu is i af k=true)=>ai.out (k+1) (fun j bd=>(by
   rcases Nat.lt_or_ge j k with ae|ae
   ·exact aa j ae
   ·obtain rfl:j=k:=by omega
    exact h)))
  clear aa U;generalize aI:Zu is i af k=aR at ax aE;have aC:=za aI;clear aI;cases aR with
  | true=>
   have bf:=aE.out rfl;go_wp2_with (go_at_call 111;refine ax.out.mono ?_;rintro e I ⟨rfl,aW⟩;dsimp only);go_roundw
   case rel=>
    refine⟨k+1,by go_num,fun j aa=>?_,aW⟩;rcases Nat.lt_or_ge j k with ae|ae
    ·exact aD.out j ae
    ·obtain rfl:j=k:=by omega
     exact aC.out
   case measure=>simp[intOf];omega
  | false=>
   go_wp2_with (first|(go_at_call 111;refine ax.out.mono ?_;rintro e I ⟨rfl,⟨bb,R,aZ,t,J⟩⟩;simp only[List.append_nil]at J;dsimp only)|(with_reducible first|refine lld J ?_|((first|refine lbx J ?_|refine lal J ?_|refine lbs J ?_);clear J;intro aF ab J)|(refine zc J ?_;clear J;intro ab J)))
   (try simp only[Exit.inBlock,Exit.then]);refine rt2 ?_
   exact⟨k,⟨some ⟨bp,0,none⟩,i+1,i+1⟩,rfl,⟨aC.out,aD.out⟩,bb,R,aZ,t,J.drop (.cons _ (List.Sublist.refl _)) (fun _ h=>h)⟩
theorem zeg (p:Pg) (is:Nat->Ins) (w:World) (hn:p.n<=9223372036854775807) (hc:zy w p is) (i:zf p is≠0):
  Calls prog 28 #[p.v] w fun e g=>e=.returned (.tuple #[.slice none 0 0,.int .i64 0,.int .i64 (zf p is)])∧Below w.heap.size w g:=by
 have j:=za (fun g (t:Below w.heap.size w g)=>jn p is g (hc.grow t) hn);generalize zf p is=c at i j ⊢;have I:(c != 0)=true:=bne_iff_ne.2 i;clear i hc hn;have J:=Loc.start w;go_enter func28,ntmps28;go_wp2_with (first|(with_reducible first|refine lld J ?_|((first|refine lbx J ?_|refine lal J ?_|refine lbs J ?_);clear J;intro C o J)|(refine zc J ?_;clear J;intro o J))|(go_at_call 43;refine cg J (j.out _ J.below) ?_;clear J;intro o J;dsimp only))
 (try simp only[Exit.inBlock,Exit.then]);refine rt3 ?_
 exact⟨rfl,J.below⟩
theorem zaW (p:Pg) (is:Nat->Ins) (nv nf:Nat) (hv:p.vars=nv) (hf:p.fields=nf) (w:World) (hn:p.n<=9223372036854775807) (hc:zy w p is) (o:zf p is=0):
  Calls prog 28 #[p.v] w fun e g=>∃ (k:Nat) (s:Sl),e=.returned (.tuple #[.slice s.p s.n s.cap,.int .i64 ((k+1:Nat):Int),.int .i64 0])∧Yi is p.n (qd nv nf p.n) k∧Kw w g s (y5 is p.n (qd nv nf p.n) (k+1)):=by
 have j:=fun g (i:Below w.heap.size w g)=>jn p is g (hc.grow i) hn
 rw[o]at j;have P:=za j;have I:=za (fun g (i:Below w.heap.size w g)=>zft p is nv nf hv hf o g (hc.grow i));clear j o hc hn hv hf;have J:=Loc.start w;go_enter func28,ntmps28;go_wp2_with (first|(with_reducible first|refine lld J ?_|((first|refine lbx J ?_|refine lal J ?_|refine lbs J ?_);clear J;intro ae C J)|(refine zc J ?_;clear J;intro C J))|(go_at_call 43;refine cg J (P.out _ J.below) ?_;clear J;intro C J;dsimp only)|(go_at_call 64;refine(I.out _ J.below).mono ?_;rintro q af ⟨k,⟨sp,ac,ab⟩,rfl,T,ad,R,aa,U,t⟩;replace J:=J.gave t;simp only[aX]at J;clear t;dsimp only))
 (try simp only[Exit.inBlock,Exit.then]);refine rt3 ?_
 exact⟨k,⟨sp,ac,ab⟩,rfl,T,ad,R,aa,U,J.drop (.cons _ (List.Sublist.refl _)) (fun _ h=>h)⟩
structure yq (w:World) (s:Sl) (l:List Pd):Prop where
 n:s.n=l.length
 m:s.n<=9223372036854775807
 ex:∃ xs:Nat->Pv,zZ w 3 s.p s.n (fun k=>(xs k).cells)∧∀ k,k<s.n->zq w (xs k) (l.getD k zC)
theorem yq.grow {w w' : World}{s:Sl}{l:List Pd}(h:yq w s l) (hb:Below w.heap.size w w'):yq w' s l:=by
 obtain⟨g,i,t,j,o⟩:=h;exact⟨g,i,t,j.grow hb,fun k p=>(o k p).grow hb⟩
theorem Kw.is {w w' : World}{s:Sl}{l:List Pd}(h:Kw w w' s l):yq w' s l:=by
 obtain⟨i,C,o,g,J⟩:=h;have p:=g.flatlen Jy (by decide);obtain⟨_,j⟩:=g.listC Jy qJ (by decide) J.own;have t:=J.get (S:=yD i l) List.mem_cons_self;exact⟨by rw[p,o],g.max,fun k=>i.getD k qJ,j,fun k I=>t k (by omega)⟩
theorem yq.at' {w:World}{s:Sl}{l:List Pd}(h:yq w s l):∃ g:Nat->Pv,Y1 w s.p s.n g (fun k=>l.getD k zC):=by
 obtain⟨_,i,g,j,o⟩:=h;exact⟨g,j,o,i⟩
def Kx (is:Nat->Ins) (i:Nat) (l:List Pd):Bool:=(List.range i).all fun g=>(Qo is g (l.getD g zC)).es.all fun x=>qt x.2 (l.getD x.1.toNat zC)
def zda (is:Nat->Ins) (g:Nat) (l:List Pd) (f:Pd):Bool:=Kx is g l&&qt f (l.getD 0 zC)
theorem zeh {is:Nat->Ins}{j:Nat}{l:List Pd}:Kx is j l=true↔∀ g,g<j->∀ x∈(Qo is g (l.getD g zC)).es,qt x.2 (l.getD x.1.toNat zC)=true:=by
 unfold Kx;rw[List.all_eq_true];refine⟨fun h g i x o=>?_,fun h g i=>?_⟩
 ·exact List.all_eq_true.1 (h g (List.mem_range.2 i)) x o
 ·exact List.all_eq_true.2 (h g (List.mem_range.1 i))
theorem zfu {is:Nat->Ins}{g:Nat}{l:List Pd}{i:Nat}(hi:i<g) {x:Int × Pd}(o:x∈(Qo is i (l.getD i zC)).es) (h:qt x.2 (l.getD x.1.toNat zC)=false):Kx is g l=false:=by
 cases j:Kx is g l with
 | false=>rfl
 | true=>rw[zeh.1 j i hi x o]at h;cases h
end Go.Proofs.YtplcndmdkabmeaaGreatDoor
