/- The calls of the law RestPictures, in short: what each hands back is new, and may be spoiled. Conditions: what they read lies in memory. | The walk over the law's spoil. Conditions: the picture's guesses and sites lie in blocks from B on, and are not frozen. -/
import Derived.Test.YtplcndmdkabmeaaGreatDoorSpoilF
import Derived.Test.YtplcndmdkabmeaaGreatDoorPicc
import Derived.Test.YtplcndmdkabmeaaGreatDoorStepOk
import Derived.Test.YtplcndmdkabmeaaGreatDoorRefSolC
import Derived.Test.YtplcndmdkabmeaaGreatDoorKep
import Derived.Test.YtplcndmdkabmeaaGreatDoorRunLaw0
import Derived.Test.YtplcndmdkabmeaaGreatDoorFoot
import Derived.Test.YtplcndmdkabmeaaGreatDoorGua
set_option linter.unusedSimpArgs false
set_option linter.unusedVariables false
set_option maxRecDepth 100000
namespace Go.Proofs.YtplcndmdkabmeaaGreatDoor
open Go.Proofs.Tryz
open Go.RowKit
theorem YU {p:Pg}{is:Nat->Ins}{d:Pd}(i:zf p is=0) (h:zE p is d=0):ju d:=by
 cases g:d.none with
 | true=>rw[zS.none h g];exact ju.none
 | false=>exact ju.of (zS.of h i g) (zp i).1
theorem zia {w w' : World}{s:Sl}{l:List Pd}(h:Kw w w' s l):Below w.heap.size w w':=by
 obtain⟨_,_,_,_,J⟩:=h;exact J.below
def XW (w:World) (q:Ending) (w' : World):Prop:=∃ (r:Pv) (c:Int) (d:Pd),q=.returned (.tuple #[r.v,.int .i64 c])∧d.fields.length<=1000∧Loc w w' [] [fun w=>zq w r d]
theorem XW.zero {w w' : World}(c:Int) (hb:Below w.heap.size w w'):XW w (.returned (.tuple #[Ks.v,.int .i64 c])) w':=⟨Ks,c,Qc,rfl,Nat.zero_le _,((Loc.start w).grow hb).pure (fun w=>zq.zero w)⟩
theorem XW.got {w w' : World}{r:Pv}{p:Pg}{is:Nat->Ins}{d:Pd}(o:zf p is=0) (j:zE p is d=0) (h:yd w w' r d):XW w (.returned (.tuple #[r.v,.int .i64 0])) w':=by
 have g:=YU o j;have t:=g.vars;have i:=g.fields;exact⟨r,0,d,rfl,i,Loc.gotP (Loc.start w) h (by omega)⟩
theorem zea (p:Pg) (is:Nat->Ins) (x y:Pv) (d e:Pd) (w:World) (hn:p.n<=9223372036854775807) (hc:zy w p is) (i:zq w x d) (j:zq w y e):
  Calls prog 24 #[p.v,x.v,y.v] w (XW w):=by
 by_cases g:cp2 p is d e=0
 ·refine(za4 p is x y d e w hn hc i j g).mono ?_
  rintro q C ⟨r,rfl,o⟩;obtain⟨a,b,c⟩:=Xe g;exact .got a (Zl Qi a b c) o
 ·refine(zes p is x y d e w hn hc i j g).mono ?_
  rintro q C ⟨rfl,t⟩;exact .zero _ t
theorem zb8 (p:Pg) (is:Nat->Ins) (x y:Pv) (d e:Pd) (w:World) (hn:p.n<=9223372036854775807) (hc:zy w p is) (i:zq w x d) (j:zq w y e):
  Calls prog 25 #[p.v,x.v,y.v] w (XW w):=by
 by_cases g:cp2 p is d e=0
 ·refine(zet p is x y d e w hn hc i j g).mono ?_
  rintro q C ⟨r,rfl,o⟩;obtain⟨a,b,c⟩:=Xe g;exact .got a (Zl Y2 a b c) o
 ·refine(zcp p is x y d e w hn hc i j g).mono ?_
  rintro q C ⟨rfl,t⟩;exact .zero _ t
def ziK (w:World) (q:Ending) (w' : World):Prop:=∃ (s:Sl) (a b:Bool) (c:Int) (g:List (Int × Pd)),q=.returned (.tuple #[.slice s.p s.n s.cap,.bool a,.bool b,.int .i64 c])∧(∀ y∈g,y.2.fields.length<=1000)∧Loc w w' [] [fun w=>jS w s g]
theorem zeb (p:Pg) (is:Nat->Ins) (x:Pv) (d:Pd) (at' : Int) (w:World) (hn:p.n<=9223372036854775807) (hc:zy w p is) (I:zq w x d):
  Calls prog 26 #[p.v,.int .i64 at',x.v] w (ziK w):=by
 refine(zab p is x d at' w hn hc I).mono ?_;rintro q R ⟨s,rfl,t⟩;refine⟨s,_,_,_,_,rfl,fun y i=>?_,t⟩;unfold Xv at i;by_cases g:Yj p is at' d=0
 ·rw[if_neg (by rw[g];decide)]at i
  unfold Yj at g;split at g
  ·contradiction
  ·rename_i j
   have j:cp1 p is d=0:=by simpa using j
   split at g
   ·cases g
   ·rename_i P
    obtain⟨o,C⟩:=zbs j;exact(YU o (KW o C (by omega) y i).2).fields
 ·rw[if_pos g]at i
  cases i
def zib (w:World) (q:Ending) (w' : World):Prop:=∃ (r:Rn) (c:Int) (s:Rs),q=.returned (.tuple #[Rn.v r,.int .i64 c])∧Loc w w' [] [fun w=>jD w r s]
theorem zb9 (w:World):jD w Gh ⟨0,[],[],0,[],0⟩:=
 ⟨⟨fun _=>dTh,⟨⟨yo rfl,0,0,fun h=>absurd h (Nat.lt_irrefl 0),fun k g=>absurd g (Nat.not_lt_zero k)⟩,⟨yo rfl,0,0,fun h=>absurd h (Nat.lt_irrefl 0),fun k g=>absurd g (Nat.not_lt_zero k)⟩,fun k g=>absurd g (Nat.not_lt_zero k),⟨yo rfl,0,0,fun h=>absurd h (Nat.lt_irrefl 0),fun k g=>absurd g (Nat.not_lt_zero k)⟩,Nat.zero_le _,Nat.zero_le _,Nat.zero_le _⟩,fun k g=>absurd g (Nat.not_lt_zero k)⟩,rfl,rfl,rfl,rfl,rfl,rfl⟩
theorem Own.runIs {w w' : World}{r:Rn}{s:Rs}{I:List Th}{Rv j i g:List zg}(h:yE r s I Rv j i g) (hb:Below w.heap.size w w') (o:Own w.heap.size w' (Rv++(j++(i++g)))):Loc w w' [] [fun w=>jD w r s]:=by
 have t:Loc w w' ([]++(Rv++(j++(i++g)))) []:=(Loc.start w).gainTail hb o;exact t.fact (fun P C=>h.is (B:=w.heap.size) ⟨o.nodup,fun e p=>⟨(o.at' e p).1,C e p⟩⟩)
theorem GH (p:Pg) (is:Nat->Ins) (r:Rn) (s:Rs) (w:World) (hn:p.n<=9223372036854775807) (hc:zy w p is) (i:jD w r s) (ht:s.taken<=9223372036854775807) (ab:s.lines.length*16<=140737488351232) (ac:ZO w):
  Calls prog 27 #[p.v,r.v,.slice none 0 0] w (zib w):=by
 obtain⟨j,C,ad⟩:=i.ex;by_cases g:jA p is r s.val j s.field=0
 ·have o:zf p is=0:=by
   unfold jA at g;split at g
   ·assumption
   ·exact g
  have T:qe p s:=zeG (by rw[jA,if_pos o]at g;exact g) i.a i.t i.nv i.nt (fun k aa=>(ad k aa).2) ht;refine(Vt p is Gw (fun _=>0) r s s.val j s.field w hn hc C.l g i T o (YL w) ab ac).mono ?_;rintro q af ⟨ae,ak,aj,ai,ah,ag,rfl,I,P,R⟩;exact⟨ae,0,_,rfl,Own.runIs I R P⟩
 ·refine(zaz p is Gw r s.val j s.field w hn hc C.l g).mono ?_
  rintro q af ⟨rfl,U⟩;exact⟨Gh,_,_,rfl,((Loc.start w).grow U).pure (fun w=>zb9 w)⟩
def zaS (p:Pg) (is:Nat->Ins) (l:List Pd):Prop:=(zf p is≠0∧l=[])∨(zf p is=0∧∃ (i g k:Nat),p.vars=i∧p.fields=g∧Yi is p.n (qd i g p.n) k∧l=y5 is p.n (qd i g p.n) (k+1))
theorem zic (p:Pg) (is:Nat->Ins):∃ l,zaS p is l:=by
 by_cases g:zf p is=0
 ·have t:=(zp g).1
  obtain⟨j,C⟩:∃ j:Nat,p.vars=j:=⟨p.vars.toNat,by have:=t.v1;omega⟩;obtain⟨i,o⟩:∃ i:Nat,p.fields=i:=⟨p.fields.toNat,by have:=t.f1;omega⟩;obtain⟨k,I⟩:=zgg g (JU (is:=is) C o);exact⟨_,.inr ⟨g,j,i,k,C,o,I,rfl⟩⟩
 ·exact⟨[],.inl ⟨g,rfl⟩⟩
theorem zaS.few {p:Pg}{is:Nat->Ins}{l:List Pd}(h:zaS p is l):∀ g,g<l.length->(l.getD g zC).fields.length<=1000:=by
 rcases h with⟨-,rfl⟩|⟨j,T,R,k,I,t,P,rfl⟩
 ·intro g i;exact absurd i (Nat.not_lt_zero g)
 ·intro g i
  have o:=Jj j (JU I t) (k+1);have C:g<=p.n:=by rw[o.len]at i;omega
  exact(YU j (o.r g C)).fields
def ziL (w:World) (c:Int) (l:List Pd) (q:Ending) (w' : World):Prop:=∃ (s:Sl) (k:Int),q=.returned (.tuple #[.slice s.p s.n s.cap,.int .i64 k,.int .i64 c])∧Loc w w' [] [fun w=>yq w s l]
theorem zca (p:Pg) (is:Nat->Ins) (w:World) (hn:p.n<=9223372036854775807) (hc:zy w p is) (l:List Pd) (I:zaS p is l):
  Calls prog 28 #[p.v] w (ziL w (zf p is) l):=by
 rcases I with⟨g,rfl⟩|⟨g,T,R,k,P,C,i,rfl⟩
 ·refine(zeg p is w hn hc g).mono ?_
  rintro q U ⟨rfl,t⟩;exact⟨zi,0,rfl,((Loc.start w).grow t).pure (fun w=>yq.zero w _ _)⟩
 ·refine(zaW p is T R P C w hn hc g).mono ?_
  rintro q U ⟨aa,s,rfl,j,o⟩;obtain rfl:=i.one j;rw[g];exact⟨s,_,rfl,Loc.picsL (Loc.start w) o⟩
theorem GI (p:Pg) (is:Nat->Ins) (w:World) (hc:zy w p is) (l:List Pd) (P:zaS p is l) (i:zf p is=0):
  Calls prog 23 #[p.v] w fun q g=>∃ (s:Sl) (k:Int),q=.returned (.tuple #[.slice s.p s.n s.cap,.int .i64 k])∧yq g s l∧Below w.heap.size w g:=by
 rcases P with⟨o,rfl⟩|⟨-,U,T,k,R,I,t,rfl⟩
 ·exact absurd i o
 ·refine(zcS p is U T R I i w hc).mono ?_
  rintro q g ⟨aa,s,rfl,C,j⟩;obtain rfl:=t.one C;exact⟨s,_,rfl,j.is,zia j⟩
set_option maxHeartbeats 1600000
theorem jq.sl {B:Nat}{w w' : World}(j:jq B w w') {b o:Nat}{p:Option Addr}{n c:Nat}(h:w.cell? ⟨b,o,none⟩=some (.slice p n c)):w'.cell? ⟨b,o,none⟩=some (.slice p n c):=by
 obtain⟨u,g,i⟩:=j.cell _ _ _ h;rw[i.slice]at g;exact g
theorem zaT (s:Sl) (l:List Sl):[Value.slice s.p s.n s.cap]++l.map (fun r=>Value.slice r.p r.n r.cap)=(s::l).flatMap Sl.row:=by
 induction l with
 | nil=>rfl
 | cons r l ih=>
  simp only[List.map_cons,List.flatMap_cons,Sl.row,aX]at ih ⊢;exact congrArg (fun g=>Value.slice s.p s.n s.cap::Value.slice r.p r.n r.cap::g) (by simpa using ih)
theorem SpR.rows {B:Nat}{s:Sl}{w:World}(h:SpR B s w):∃ l:List Sl,l.length=s.n∧(∀ r∈l,SpG B r w)∧∃ b j:Nat,(0<s.n->s.p=some ⟨b,j,none⟩)∧∀ k,k<s.n->w.cell? ⟨b,j+k,none⟩=some (.slice (l.getD k zi).p (l.getD k zi).n (l.getD k zi).cap)∧SpG B (l.getD k zi) w:=by
 obtain⟨b,j,C,o⟩:=h.ex
 let i:Nat->Sl:=fun k=>if g:k<s.n then Classical.choose (o k g) else zi
 have t:∀ k,k<s.n->w.cell? ⟨b,j+k,none⟩=some (.slice (i k).p (i k).n (i k).cap)∧SpG B (i k) w:=fun k g=>by
  show _∧_
  simp only[i,dif_pos g];exact Classical.choose_spec (o k g)
 have I:∀ k,k<s.n->((List.range s.n).map i).getD k zi=i k:=fun k g=>zV _ _ _ _ g
 refine⟨(List.range s.n).map i,by simp,fun r P=>?_,b,j,C,fun k g=>by rw[I k g];exact t k g⟩;obtain⟨k,g,rfl⟩:=List.mem_map.1 P;exact(t k (List.mem_range.1 g)).2
theorem Z7 (x:Pv) (B:Nat) (w:World) (a0:B<=w.heap.size) (h:SpP B x w):
  Calls prog 32 #[x.v] w fun e w'=>e=.returned (.tuple #[])∧jq B w w':=by
 obtain⟨l,a8,aZ,aL,of,aA,a3⟩:=h.f.rows;have g:=h.v;have a9:=h.m;obtain⟨bV,ac,s2⟩:=x;dsimp only at a8 aA a3 g a9;have ay:=za (fun (w' : World) (a1:Below w.heap.size w w') (az:0<s2.n)=>show ∃ aK,s2.p=some aK∧∀ T u,(l.map (fun r=>Value.slice r.p r.n r.cap))[T]? = some u->w'.cell? (aK.add T)=some u from ⟨⟨aL,of,none⟩,aA az,fun T u aU=>by
  rw[zG];have b0:T<l.length:=by have:=(List.getElem?_eq_some_iff.1 aU).1;simpa using this
  have af:=(a3 T (by omega)).1;rw[a1.cell (p:=⟨aL,of+T,none⟩) (qS af),af,<- aU];simp[List.getD_eq_getElem?_getD,List.getElem?_eq_getElem b0]⟩)
 have aF:=za (show ∀ u∈l.map (fun r=>Value.slice r.p r.n r.cap),u.oneCell'=true from fun u b8=>by obtain⟨y,_,rfl⟩:=List.mem_map.1 b8;rfl);have av:=za (show (l.map (fun r=>Value.slice r.p r.n r.cap)).length=s2.n*1 by rw[List.length_map,a8,Nat.mul_one]);have aq:=za (fun (w' : World) (a1:Below w.heap.size w w') (ak:Option Addr) (aN:Nat) (R:List zg) (aO:zB 51 1 ak (1+s2.n) aN ([Value.slice ac.p ac.n ac.cap]++l.map (fun r=>Value.slice r.p r.n r.cap)) R) (ho:Own w.heap.size w' R)=>(show SpR B ⟨ak,1+s2.n,aN⟩ w' by
  rw[zaT]at aO;obtain⟨-,bv⟩:=zB.listC (f:=Sl.row) (es:=1) (fun _=>rfl) zi aO (by decide) ho;obtain⟨b,o,af,bw⟩:=bv.ex;have ba:=jq.of a1 a0;refine⟨b,o,af,fun k a6=>⟨(ac::l).getD k zi,?_,?_⟩⟩
  ·have:=(bw k a6).2 0 _ rfl
   simpa using this
  ·cases k with
   | zero=>exact g.like ba
   | succ k=>
    have b1:k<l.length:=by have:k+1<1+s2.n:=a6;omega
    exact(aZ _ (by show l.getD k zi∈l;exact qX b1)).like ba))
 obtain⟨bE,bF,bD⟩:=ac;obtain⟨bK,fn,bJ⟩:=s2;dsimp only at a9 ay av aq;clear h a8 aZ aA a3 g;have J:=Loc.start w;go_enter func32,ntmps32;go_step;go_step;go_step
 ((with_reducible refine lbx J ?_);clear J;intro bs i J)
 go_upto_region 2 with(first|((with_reducible refine lbs J ?_);clear J;intro bt i J;replace J:=J.perm (List.Perm.swap _ _ _))|(refine zF (z:=[.slice none 0 0]) (K:=(bs,_,_)::[]) (R:=[(bt,_,_)]) (xs:=[.slice bE bF bD]) (news:=l.map (fun r=>Value.slice r.p r.n r.cap)) (zB.full rfl (by decide)) J rfl rfl rfl UK zcG (by decide) rfl (fun az=>ay.out _ J.below az) av.out aF.out (by have:maxLen=9223372036854775807:=rfl;omega) (by omega) ?_;clear J;intro ak bu bq bC aP J)|(with_reducible first|refine lld J ?_|((first|refine lbx J ?_|refine lal J ?_|refine lbs J ?_);clear J;intro U i J)|(refine zc J ?_;clear J;intro i J)))
 have aQ:=aq.out _ J.below ak bu bq aP (J.ownOf (List.sublist_append_right [_] _));have bd:=za (jq.of J.below a0);clear aq ay aF av aP J;obtain⟨br,bx,-,bH,bO,ai,a2⟩:=aQ.rows;have ai:=ai (by show 0<1+fn;omega);dsimp only at ai a2;subst ai;have be:=za a2;clear a2 aQ bx;obtain⟨ao,b9⟩:∃ x,x=bC:=⟨_,rfl⟩;subst b9;generalize b5:1+fn=m at *;have bM:m<=1001:=by omega
 clear b5 a9 a0;have aY:=jq.refl B ao;go_wp2;go_loopw [3] (fun c wr=>∃ j:Nat,j<=m∧c=.int .i64 j∧jq B ao wr) (fun c _=>m - (intOf c).toNat)
 case atStart=>exact⟨0,Nat.zero_le _,rfl,aY⟩
 case round=>
  clear aY;obtain⟨j,bL,rfl,a7⟩:=hrel;by_cases b2:j<m
  ·obtain⟨aj,ag⟩:=be.out j b2
   generalize br.getD j zi=r at aj ag;obtain⟨bR,al,bQ⟩:=r;have b6:=ag.m;obtain⟨aM,bc,aa,a4⟩:=ag.ex;dsimp only at aj b6 aa a4;have ad:=za aj;have bn:=za aa;have bf:=za a4;clear aj ag aa a4;go_wp2;go_loopw [4] (fun c wr=>∃ k:Nat,k<=al∧c=.int .i64 k∧jq B ao wr) (fun c _=>al - (intOf c).toNat)
   case atStart=>exact⟨0,Nat.zero_le _,rfl,a7⟩
   case round=>
    clear a7;obtain⟨k,a6,rfl,ah⟩:=hrel;have ar:=za ah;have J:=Loc.start wr;have ax:=za (zd.cell (P:=prog) jZ (qS (ah.sl ad.out)) (ah.sl ad.out));clear ah;by_cases b3:k<al
    ·obtain⟨aa,aR⟩:=bn.out (by omega)
     subst aa;obtain⟨⟨aT,z,bb⟩,t,aB,aC⟩:=bf.out k b3;obtain⟨bT,an,bS⟩:=t;have b7:=aC.m;obtain⟨bI,bP,ab,a5⟩:=aC.ex;dsimp only at aB b7 ab a5;have bj:=za aT;have aJ:=za bb;have aH:=za aB;have bo:=za ab;have bg:=za a5;clear aT bb aB aC ab a5;go_upto_region 8 with(with_reducible first|refine ldB ax.out J ?_|refine lld J ?_|((first|refine lbx J ?_|refine lal J ?_|refine lbs J ?_);clear J;intro U i J)|(refine zc J ?_;clear J;intro i J))
     go_wp2;go_loopw [5] (fun c wr=>∃ n:Nat,n<=an∧c=.int .i64 n∧jq B ao wr) (fun c _=>an - (intOf c).toNat)
     case atStart=>exact⟨0,Nat.zero_le _,rfl,ar.out⟩
     case round=>
      clear J ax ar;obtain⟨n,bN,rfl,I⟩:=hrel;have C:=za I;have J:=Loc.start wr;have ae:=za (zd.cell (P:=prog) jZ (qS (I.sl ad.out)) (I.sl ad.out));have aI:=za (zd.cell (P:=prog) KM (qS (I.sl aH.out)) (I.sl aH.out));clear I;by_cases b4:n<an
      ·obtain⟨ab,bz⟩:=bo.out (by omega)
       subst ab;obtain⟨aS,y,aD⟩:=bg.out n b4;obtain⟨v,g,aV⟩:=C.out.cell _ _ _ aD;obtain⟨bW,rfl⟩:=aV.ofInt;have bp:=za g;have bh:=za ((C.out.fz _ _ (qS aD)).trans aS);have au:=za (C.out.trans (jq.set (v:=.int .i64 (-7)) g bz .int));clear aS aD aV g;go_wp2_with (first|(with_reducible first|refine ldB ae.out J ?_|refine ldB aI.out J ?_)|(refine K8 Uu rfl rfl rfl rfl y2.sz bp.out bh.out ?_)|(with_reducible first|refine lld J ?_|((first|refine lbx J ?_|refine lal J ?_|refine lbs J ?_);clear J;intro U i J)|(refine zc J ?_;clear J;intro i J)));go_roundw
       case rel=>exact⟨n+1,by omega,by go_num,au.out⟩
       case measure=>simp[intOf];omega
      ·obtain rfl:n=an:=by omega
       obtain⟨v,g,aW⟩:=C.out.cell _ _ _ aJ.out;obtain⟨bG,rfl⟩:=aW.ofBool;have bl:=za (zd.cell (P:=prog) J0 (qS g) g);have bm:=za g;have bk:=za ((C.out.fz _ _ (qS aJ.out)).trans bj.out);have aw:=za (qS g);clear g aW;go_upto_region 12 with(with_reducible first|refine ldB ae.out J ?_|refine ldB aI.out J ?_|refine lld J ?_|((first|refine lbx J ?_|refine lal J ?_|refine lbs J ?_);clear J;intro U i J)|(refine zc J ?_;clear J;intro i J))
       refine zb [50,51,52,53,54,55,56,57,58,59,60,61,62,63,64,65] ?_
       iterate 3 refine qdv ?_
       refine qdl ae.out ?_
       iterate 4 refine qdv ?_
       refine qdl ae.out ?_
       iterate 3 refine qdv ?_
       refine qdl bl.out ?_
       iterate 3 refine qdv ?_
       refine dnd J ?_;clear J;intro bU J;simp only[zr,sTa,sTb];have aE:=za ((J.below.cell (p:=⟨aM,bc+k*7,none⟩) aw.out).trans bm.out);have bi:=za ((J.below.frozen (p:=⟨aM,bc+k*7,none⟩) aw.out).trans bk.out);have au:=za ((C.out.trans (jq.of J.below (Nat.le_of_lt (Nat.lt_of_le_of_lt aR aw.out)))).trans (jq.set (v:=.bool !bG) aE.out aR .bool));go_wp2_with (first|(refine K8 Uu rfl rfl rfl rfl J0.sz aE.out bi.out ?_)|(with_reducible first|refine lld J ?_|((first|refine lbx J ?_|refine lal J ?_|refine lbs J ?_);clear J;intro U i J)|(refine zc J ?_;clear J;intro i J)));go_roundw
       case rel=>exact⟨k+1,by omega,by go_num,au.out⟩
       case measure=>simp[intOf];omega
    ·obtain rfl:k=al:=by omega
     go_wp2_with (with_reducible first|refine ldB ax.out J ?_|refine lld J ?_|((first|refine lbx J ?_|refine lal J ?_|refine lbs J ?_);clear J;intro U i J)|(refine zc J ?_;clear J;intro i J));go_roundw
     case rel=>exact⟨j+1,by omega,by go_num,ar.out⟩
     case measure=>simp[intOf];omega
  ·obtain rfl:j=m:=by omega
   go_wp2
   (try simp only[Exit.inBlock,Exit.then]);(first|refine qv rfl rfl ?_|refine qw rfl rfl ?_)
   exact⟨rfl,bd.out.trans a7⟩
end Go.Proofs.YtplcndmdkabmeaaGreatDoor
