/- The law RestPictures: whatever it is handed it returns true. Conditions: the library's table; what it reads lies in memory that was there; the bounds on bytes that a row says. -/
import Derived.Test.YtplcndmdkabmeaaGreatDoorSpoilW
import Derived.Test.YtplcndmdkabmeaaGreatDoorOpenW
import Derived.Test.YtplcndmdkabmeaaGreatDoorPice
import Derived.Test.YtplcndmdkabmeaaGreatDoorRunBegun
import Derived.Test.YtplcndmdkabmeaaGreatDoorStpc
set_option linter.unusedSimpArgs false
set_option linter.unusedVariables false
set_option maxRecDepth 100000
set_option maxHeartbeats 4000000
namespace Go.Proofs.YtplcndmdkabmeaaGreatDoor
open Go.Proofs.Tryz
open Go.RowKit
theorem KU {a b:Bool}(h:a=true->b=true) (hb:b=false):a=false:=by
 cases a with
 | true=>rw[h rfl]at hb;cases hb
 | false=>rfl
theorem Loc.nameL {w0 w:World}{L:List zg}{D:List zl}(h:Loc w0 w L D):∃ K,K=L∧Loc w0 w K D:=⟨L,rfl,h⟩
section
variable {w0 w : World} {A B C : List zg} {x : zg} {D : List zl} {U V S T : zl}
theorem Loc.ins2 (h:Loc w0 w (x::(A++C)) D):Loc w0 w (A++([x]++C)) D:=h.perm List.perm_middle
theorem Loc.ins3 (h:Loc w0 w (x::(A++(B++C))) D):Loc w0 w (A++(B++([x]++C))) D:=h.perm ((List.Perm.append_left A List.perm_middle).trans List.perm_middle)
theorem Loc.out2 (h:Loc w0 w (A++([x]++C)) D):Loc w0 w (x::(A++C)) D:=h.perm List.perm_middle.symm
theorem Loc.out3 (h:Loc w0 w (A++(B++([x]++C))) D):Loc w0 w (x::(A++(B++C))) D:=h.perm ((List.Perm.append_left A List.perm_middle).trans List.perm_middle).symm
theorem Loc.d1 (h:Loc w0 w A [U,V,S,T]):Loc w0 w A [U,S,T]:=h.drop (List.Sublist.refl _) (by simp)
theorem Loc.d2 (h:Loc w0 w A [U,V,S,T]):Loc w0 w A [V,U,T]:=h.drop (List.Sublist.refl _) (by simp)
theorem Loc.d3 (h:Loc w0 w A [U,V,S,T]):Loc w0 w A [V,S,U]:=h.drop (List.Sublist.refl _) (by simp)
end
theorem jq.set2 {B b o:Nat}{w:World}{u0 u1 v0 v1:Value}(i:w.cell? ⟨b,o,none⟩=some u0) (j:w.cell? ⟨b,o+1,none⟩=some u1) (g:B<=b) (k0:jL u0 v0) (p:jL u1 v1):jq B w ((w.setCell ⟨b,o,none⟩ v0).setCell ⟨b,o+1,none⟩ v1):=
 (jq.set i g k0).trans (jq.set ((World.cell?_setCell_other _ _ _ _ (by simp)).trans j) g p)
theorem JH {w:World}{b:Nat}{x:Pv}(h:w.heap[b]? = some (.cells x.cells.toArray 54 (0,0))):zd prog 54 w b 0 x.v:=
 zd.agg Zj (l:=x.cells) (zz h) (fun g v i=>by
  have:w.cell? ⟨b,0+g,none⟩=x.cells[g]? :=by simp[World.cell?,h]
  rw[this];exact i) rfl
abbrev rnC (r:Rn):List Value:=[.int .i64 r.at',.slice r.vars.p r.vars.n r.vars.cap,.slice r.things.p r.things.n r.things.cap,.int .i64 r.taken,.slice r.lines.p r.lines.n r.lines.cap,.int .i64 r.ending]
theorem Xt {w:World}{b:Nat}{r:Rn}(h:w.heap[b]? = some (.cells (rnC r).toArray 46 (0,0))):zd prog 46 w b 0 r.v:=
 zd.agg zil (l:=rnC r) (zz h) (fun g v i=>by
  have:w.cell? ⟨b,0+g,none⟩=(rnC r)[g]? :=by simp[World.cell?,h]
  rw[this];exact i) rfl
theorem zby {w:World}{b:Nat}{p:Pg}(h:w.heap[b]? = some (.cells #[.int .i64 p.vars,.int .i64 p.fields,.slice p.pc p.n p.cap] 27 (0,0))):zd prog 27 w b 0 p.v:=
 zd.agg Ga (l:=[.int .i64 p.vars,.int .i64 p.fields,.slice p.pc p.n p.cap]) (zz h) (fun g v i=>by
  have:w.cell? ⟨b,0+g,none⟩=[Value.int .i64 p.vars,.int .i64 p.fields,.slice p.pc p.n p.cap][g]? :=by simp[World.cell?,h]
  rw[this];exact i) rfl
theorem zeH (p:Pg) (is:Nat->Ins) (at' : Int) (x y:Pv) (ao a1:Pd) (r:Rn) (s:Rs) (w:World) (hn:p.n<=9223372036854775807) (hc:zy w p is) (a7:zq w x ao) (b8:zq w y a1) (aF:zeT ao) (bg:zeT a1) (b5:jD w r s) (ht:s.taken<=9223372036854775807) (b7:zhP s) (b3:ZO w):
  Calls prog 5 #[p.v,.int .i64 at',x.v,y.v,r.v] w fun q w'=>q=.returned (.bool true)∧Below w.heap.size w w':=by
 obtain⟨l,aD⟩:=zic p is;have cX:=za b3;have cN:=za (fun (a b:Pv) w' (hb:Below w.heap.size w w') (a6:zq w' a ao) (bt:zq w' b a1)=>zea p is a b ao a1 w' hn (hc.grow hb) a6 bt);have ds:=za (fun (a b:Pv) w' (hb:Below w.heap.size w w') (a6:zq w' a ao) (bt:zq w' b a1)=>zb8 p is a b ao a1 w' hn (hc.grow hb) a6 bt);have dr:=za (fun (a:Pv) w' (hb:Below w.heap.size w w') (a6:zq w' a ao)=>zeb p is a ao at' w' hn (hc.grow hb) a6);have dm:=za (fun (c:Rn) w' (hb:Below w.heap.size w w') (dK:jD w' c s)=>GH p is c s w' hn (hc.grow hb) dK ht b7.l (b3.grow hb));have dn:=za (fun w' (hb:Below w.heap.size w w')=>zca p is w' hn (hc.grow hb) l aD);have dp:=za (fun w' (hb:Below w.heap.size w w')=>GI p is w' (hc.grow hb) l aD);have cJ:=za aD.few;have cS:=za (fun (h:zf p is≠0)=>(show l=[] by
  rcases aD with⟨-,e⟩|⟨e,-⟩
  ·exact e
  ·exact absurd e h))
 have cD:=za (fun w' (hb:Below w.heap.size w w')=>Ky p is w' (hc.grow hb) hn);have cF:=za (fun w' (hb:Below w.heap.size w w')=>zbN x ao w' (a7.grow hb) aF);have cG:=za (fun w' (hb:Below w.heap.size w w')=>zbN y a1 w' (b8.grow hb) bg);have cE:=za (fun w' (hb:Below w.heap.size w w')=>zeV r s w' (b5.grow hb) b7);have cT:=za (show ao.vars.length+ao.fields.length<=9223372036854775807 by have:=aF.vars;have:=aF.fields;omega);have cU:=za (show a1.vars.length+a1.fields.length<=9223372036854775807 by have:=bg.vars;have:=bg.fields;omega);have cl:=za (fun (a b:Pv) (d:Pd) w' (a6:zq w' a d) (hb:zq w' b d)=>(show Calls prog 29 #[a.v,b.v] w' fun q a8=>q=.returned (.bool true)∧Below w'.heap.size w' a8 by
  have h:=Kv a b d d w' a6 hb;rw[YV.2 rfl]at h;exact h))
 have dq:=za (fun (a b:Rn) w' (a6:jD w' a s) (hb:jD w' b s)=>(show Calls prog 30 #[a.v,b.v] w' fun q a8=>q=.returned (.bool true)∧Below w'.heap.size w' a8 by
  obtain⟨eh,ei,ef,eg,dE,dF,dQ,dR,ak,al,an⟩:=jD.same a6 hb;have h:=zaO a b eh ei ef eg dE dF dQ dR w' ak al;rw[an]at h;exact h))
 have dt:=za a7;have du:=za b8;have dk:=za b5;generalize zf p is=c at *;clear hn hc a7 b8 aF bg b5 ht b7 b3 aD;obtain⟨eb,dY,ea,dZ,dX⟩:=p;obtain⟨bS,⟨bT,bU,bO⟩,⟨bR,bQ,bP⟩⟩:=x;obtain⟨ca,⟨cb,cc,bV⟩,⟨bZ,bY,bW⟩⟩:=y;obtain⟨bC,⟨bN,bM,bL⟩,⟨bK,bJ,bI⟩,bE,⟨bH,bG,bF⟩,bD⟩:=r
 try dsimp only at *
 have J:=Loc.start w;go_enter func5,ntmps5;go_step;go_step;go_step
 ((with_reducible refine lbx J ?_);clear J;intro es j J)
 ((with_reducible refine lbx J ?_);clear J;intro eu j J)
 ((with_reducible refine lbx J ?_);clear J;intro ev j J)
 ((with_reducible refine lbx J ?_);clear J;intro ew j J)
 go_upto_region 3 with(first|(go_at_call 12;refine cg J (GM _ (cX.out.grow J.below)) ?_;clear J;intro j J;dsimp only)|(go_at_call 17;refine cg J (GL _) ?_;clear J;intro j J;dsimp only)|(go_at_call 18;refine cg J (Xi _) ?_;clear J;intro j J;dsimp only)|(go_at_call 19;refine cg J (VX _) ?_;clear J;intro j J;dsimp only)|(with_reducible first|refine lld J ?_|((first|refine lbx J ?_|refine lal J ?_|refine lbs J ?_);clear J;intro ai j J)|(refine zc J ?_;clear J;intro j J)))
 have dJ:=J.nameL;clear J;obtain⟨bd,aS,J⟩:=dJ;obtain⟨I,cs⟩:∃ I:(Nat->Bool)->(Nat->Value)->World->Prop,I=fun l g W=>∃ (a c:Pv) (r:Rn) (af ag ah:Nat),(l 0=true->g 50=Pv.v ⟨bS,⟨bT,bU,bO⟩,⟨bR,bQ,bP⟩⟩)∧(l 1=true->g 51=a.v)∧(l 2=true->g 52=Pv.v ⟨ca,⟨cb,cc,bV⟩,⟨bZ,bY,bW⟩⟩)∧(l 3=true->g 53=c.v)∧(l 4=true->g 54=Rn.v ⟨bC,⟨bN,bM,bL⟩,⟨bK,bJ,bI⟩,bE,⟨bH,bG,bF⟩,bD⟩)∧(l 5=true->g 55=r.v)∧
   (l 6=true->g 11=.pointer (some ⟨af,0,none⟩))∧(l 7=true->g 12=.pointer (some ⟨ag,0,none⟩))∧(l 8=true->g 13=.pointer (some ⟨ah,0,none⟩))∧(l 9=true->l 6=true∧l 1=true)∧(l 10=true->l 7=true∧l 3=true)∧(l 11=true->l 8=true∧l 5=true)∧
   Loc w W ((bif l 8 then [(ah,46,bif l 11 then rnC r else rnC Gh)] else [])++((bif l 7 then [(ag,54,bif l 10 then c.cells else qJ.cells)] else [])++((bif l 6 then [(af,54,bif l 9 then a.cells else qJ.cells)] else [])++bd)))
    [fun w=>l 1=true->zq w a ao,fun w=>l 3=true->zq w c a1,fun w=>l 5=true->jD w r s]:=⟨_,rfl⟩
 have ae:=za cs;clear cs;refine zgH I [50,51,52,53,54,55,11,12,13] rfl (by kernel_rfl) ?h0 ?hs ?he
 case h0=>
  have R:∀ {p:Prop},false=true->p:=fun h=>by cases h
  rw[ae.out];exact⟨Ks,Ks,Gh,0,0,0,R,R,R,R,R,R,R,R,R,R,R,R,((J.drew.pure fun _=>R).pure fun _=>R).pure fun _=>R⟩
 case hs=>
  refine⟨?_,?_,?_,?_,?_,?_,?_,?_,?_,?_,?_,?_,trivial⟩<;>(intro l g W a0 az h;rw[ae.out]at h;obtain⟨a,c,r,af,ag,ah,h0,ak,al,an,aw,ax,ab,ac,ad,au,aq,ar,J⟩:=h)
  ·have aB:Loc w W bd []:=J.drop ((List.sublist_append_right _ _).trans ((List.sublist_append_right _ _).trans (List.sublist_append_right _ _))) (by simp)
   rw[aS]at aB;simp only[fD];refine lld aB ?_
   (try refine⟨rfl,_,rfl,?_⟩)
   rw[ae.out];exact⟨a,c,r,af,ag,ah,fun _=>rfl,ak,al,an,aw,ax,ab,ac,ad,au,aq,ar,J⟩
  ·have h:=KU (fun h=>(au h).2) a0
   have a3:=h0 (az 0 (by decide));simp only[fD];simp only[a3];go_wp2_with (go_at_call 20;refine(cF.out _ J.below).mono ?_;rintro e a5 ⟨dC,rfl,aa⟩;replace J:=J.gotP aa cT.out;dsimp only)
   (try refine⟨rfl,_,rfl,?_⟩)
   rw[h]at J;rw[ae.out];exact⟨dC,c,r,af,ag,ah,h0,fun _=>rfl,al,an,aw,ax,ab,ac,ad,fun h=>⟨(au h).1,rfl⟩,aq,ar,by rw[show K6 l 1 9=false from h];exact(J.turn fun w h _=>h).d1⟩
  ·have aB:Loc w W bd []:=J.drop ((List.sublist_append_right _ _).trans ((List.sublist_append_right _ _).trans (List.sublist_append_right _ _))) (by simp)
   rw[aS]at aB;simp only[fD];refine lld aB ?_
   (try refine⟨rfl,_,rfl,?_⟩)
   rw[ae.out];exact⟨a,c,r,af,ag,ah,h0,ak,fun _=>rfl,an,aw,ax,ab,ac,ad,au,aq,ar,J⟩
  ·have h:=KU (fun h=>(aq h).2) a0
   have a3:=al (az 2 (by decide));simp only[fD];simp only[a3];go_wp2_with (go_at_call 20;refine(cG.out _ J.below).mono ?_;rintro e a5 ⟨dD,rfl,aa⟩;replace J:=J.gotP aa cU.out;dsimp only)
   (try refine⟨rfl,_,rfl,?_⟩)
   rw[h]at J;rw[ae.out];exact⟨a,dD,r,af,ag,ah,h0,ak,al,fun _=>rfl,aw,ax,ab,ac,ad,au,fun h=>⟨(aq h).1,rfl⟩,ar,by rw[show K6 l 3 10=false from h];exact(J.turn fun w h _=>h).d2⟩
  ·have aB:Loc w W bd []:=J.drop ((List.sublist_append_right _ _).trans ((List.sublist_append_right _ _).trans (List.sublist_append_right _ _))) (by simp)
   rw[aS]at aB;simp only[fD];refine lld aB ?_
   (try refine⟨rfl,_,rfl,?_⟩)
   rw[ae.out];exact⟨a,c,r,af,ag,ah,h0,ak,al,an,fun _=>rfl,ax,ab,ac,ad,au,aq,ar,J⟩
  ·have h:=KU (fun h=>(ar h).2) a0
   have a3:=aw (az 4 (by decide));simp only[fD];simp only[a3];go_wp2_with (go_at_call 21;refine(cE.out _ J.below).mono ?_;rintro e a5 ⟨ec,eT,ep,eo,en,em,rfl,dG,dH,dI⟩;replace J:=(J.gave (Own.runIs dG dI dH)).conv (List.append_nil _);dsimp only)
   (try refine⟨rfl,_,rfl,?_⟩)
   rw[h]at J;rw[ae.out];exact⟨a,c,ec,af,ag,ah,h0,ak,al,an,aw,fun _=>rfl,ab,ac,ad,au,aq,fun h=>⟨(ar h).1,rfl⟩,by rw[show K6 l 5 11=false from h];exact(J.turn fun w h _=>h).d3⟩
  ·have h:=KU (fun h=>(au h).1) a0
   rw[a0]at J;simp only[fD];refine lal J ?_;intro b a8 J
   (try refine⟨rfl,_,rfl,?_⟩)
   rw[ae.out];exact⟨a,c,r,b,ag,ah,h0,ak,al,an,aw,ax,fun _=>rfl,ac,ad,fun h=>⟨rfl,(au h).2⟩,aq,ar,by rw[show K6 l 6 9=false from h];exact J.ins3⟩
  ·have h:=KU (fun h=>(aq h).1) a0
   rw[a0]at J;simp only[fD];refine lal J ?_;intro b a8 J
   (try refine⟨rfl,_,rfl,?_⟩)
   rw[ae.out];exact⟨a,c,r,af,b,ah,h0,ak,al,an,aw,ax,ab,fun _=>rfl,ad,au,fun h=>⟨rfl,(aq h).2⟩,ar,by rw[show K6 l 7 10=false from h];exact J.ins2⟩
  ·have h:=KU (fun h=>(ar h).1) a0
   rw[a0]at J;simp only[fD];refine lal J ?_;intro b a8 J
   (try refine⟨rfl,_,rfl,?_⟩)
   rw[ae.out];exact⟨a,c,r,af,ag,b,h0,ak,al,an,aw,ax,ab,ac,fun _=>rfl,au,aq,fun h=>⟨rfl,(ar h).2⟩,by rw[show K6 l 8 11=false from h];exact J⟩
  ·have q:=az 6 (by decide)
   have hp:=ab q;have a3:=ak (az 1 (by decide));rw[q,a0]at J;simp only[fD];simp only[hp,a3];refine zc J.out3 ?_;intro a8 J
   (try refine⟨rfl,_,rfl,?_⟩)
   rw[ae.out];exact⟨a,c,r,af,ag,ah,h0,ak,al,an,aw,ax,ab,ac,ad,fun _=>⟨q,az 1 (by decide)⟩,aq,ar,by rw[show K6 l 9 6=true from q];exact J.ins3⟩
  ·have q:=az 7 (by decide)
   have hp:=ac q;have a3:=an (az 3 (by decide));rw[q,a0]at J;simp only[fD];simp only[hp,a3];refine zc J.out2 ?_;intro a8 J
   (try refine⟨rfl,_,rfl,?_⟩)
   rw[ae.out];exact⟨a,c,r,af,ag,ah,h0,ak,al,an,aw,ax,ab,ac,ad,au,fun _=>⟨q,az 3 (by decide)⟩,ar,by rw[show K6 l 10 7=true from q];exact J.ins2⟩
  ·have q:=az 8 (by decide)
   have hp:=ad q;have a3:=ax (az 5 (by decide));rw[q,a0]at J;simp only[fD];simp only[hp,a3];refine zc J ?_;intro a8 J
   (try refine⟨rfl,_,rfl,?_⟩)
   rw[ae.out];exact⟨a,c,r,af,ag,ah,h0,ak,al,an,aw,ax,ab,ac,ad,au,aq,fun _=>⟨q,az 5 (by decide)⟩,by rw[show K6 l 11 8=true from q];exact J⟩
 case he=>
  clear J;intro eH g W aD h;rw[ae.out]at h;obtain⟨a,d,r,af,ag,ah,-,-,-,-,-,-,ab,ac,ad,-,-,-,J⟩:=h;have e:=fun i h=>aD i (show i<12 from h)
  rw[e 6 (by decide),e 7 (by decide),e 8 (by decide),e 9 (by decide),e 10 (by decide),e 11 (by decide),aS]at J;have cB:=za (J.get List.mem_cons_self (e 1 (by decide)));have cC:=za (J.get (List.mem_cons_of_mem _ List.mem_cons_self) (e 3 (by decide)));have dc:=za (J.get (List.mem_cons_of_mem _ (List.mem_cons_of_mem _ List.mem_cons_self)) (e 5 (by decide)));have ab:=ab (e 6 (by decide));have ac:=ac (e 7 (by decide));have ad:=ad (e 8 (by decide));simp only[cond_true,aX]at J;have df:=za (Xt (r:=r) (J.heap .head));have de:=za (JH (x:=d) (J.heap (.tail _ .head)));have dd:=za (JH (x:=a) (J.heap (.tail _ (.tail _ .head))));have dj:=za (Xt (r:=⟨bC,⟨bN,bM,bL⟩,⟨bK,bJ,bI⟩,bE,⟨bH,bG,bF⟩,bD⟩) (J.heap (.tail _ (.tail _ (.tail _ .head)))));have di:=za (JH (x:=⟨ca,⟨cb,cc,bV⟩,⟨bZ,bY,bW⟩⟩) (J.heap (.tail _ (.tail _ (.tail _ (.tail _ .head))))));have dh:=za (JH (x:=⟨bS,⟨bT,bU,bO⟩,⟨bR,bQ,bP⟩⟩) (J.heap (.tail _ (.tail _ (.tail _ (.tail _ (.tail _ .head)))))));have bp:=za (zby (p:=⟨eb,dY,ea,dZ,dX⟩) (J.heap (.tail _ (.tail _ (.tail _ (.tail _ (.tail _ (.tail _ .head))))))));have aY:=za (fun w' (hb:Below W.heap.size W w')=>J.below.trans (hb.mono J.below.size));simp only[fD,ab,ac,ad];clear J ae e aD ab ac ad aS;have J:=Loc.start W;go_upto_if 59 with(first|(with_reducible refine ldB bp.out J ?_)|(go_at_call 22;refine cg J (cD.out _ (aY.out _ J.below)) ?_;clear J;intro j J;dsimp only)|(with_reducible first|refine lld J ?_|((first|refine lbx J ?_|refine lal J ?_|refine lbs J ?_);clear J;intro ai j J)|(refine zc J ?_;clear J;intro j J)))
  go_cut [14,15] from 36 (fun u v wc=>u=.int .i64 c∧∃ t:Sl,v=.slice t.p t.n t.cap∧yq wc t l∧Below W.heap.size W wc)
  case first=>
   by_cases ay:c=0
   ·go_wp2_with (first|(with_reducible refine ldB bp.out J ?_)|(go_at_call 23;refine(dp.out _ (aY.out _ J.below) ay).mono ?_;rintro e a5 ⟨t,k,rfl,hp,hb⟩;have cm:=za (And.intro hp (J.below.trans (hb.mono J.below.size)));clear hp;replace J:=J.grow hb;clear hb;dsimp only)|(with_reducible first|refine lld J ?_|((first|refine lbx J ?_|refine lal J ?_|refine lbs J ?_);clear J;intro ai j J)|(refine zc J ?_;clear J;intro j J)))
    go_meet
    case rel=>exact⟨by first|rfl|rw[ay],t,rfl,cm.out.1,cm.out.2⟩
   ·go_wp2
    go_meet
    case rel=>exact⟨rfl,zi,rfl,by rw[cS.out ay];exact yq.zero _ _ _,J.below⟩
  case rest=>
   obtain⟨rfl,t,rfl,aN,cw⟩:=hcut;have cV:=za aN;have aZ:=za cw;clear aN cw J;have a4:=Below.refl wc.heap.size wc;go_wp2;go_loopw [16] (fun x wr=>∃ k:Nat,k<=2∧x=.int .i64 k∧Below wc.heap.size wc wr) (fun x _=>2 - (intOf x).toNat)
   case atStart=>exact⟨0,by decide,rfl,a4⟩
   case round=>
    clear a4;obtain⟨k,eD,rfl,a4⟩:=hrel;by_cases eE:k<2
    ·have aP:=za (fun w' (hb:Below wr.heap.size wr w')=>aZ.out.trans ((a4.trans (hb.mono a4.size)).mono aZ.out.size))
     have cW:=za (fun w' (hb:Below wr.heap.size wr w')=>cV.out.grow (a4.trans (hb.mono a4.size)));have cd:=za a4;clear a4;have a9:=za (fun w' (hb:Below wr.heap.size wr w')=>aY.out w' (aP.out w' hb));have ba:=za (fun w' (hb:Below wr.heap.size wr w')=>cB.out.grow (aP.out w' hb));have bo:=za (fun w' (hb:Below wr.heap.size wr w')=>cC.out.grow (aP.out w' hb));have cf:=za (fun w' (hb:Below wr.heap.size wr w')=>dc.out.grow (aP.out w' hb));have aH:=aP.out wr (Below.refl _ _);have cO:=za (bp.out.grow aH);have ch:=za (dd.out.grow aH);have cj:=za (de.out.grow aH);have ck:=za (df.out.grow aH);have cP:=za (dh.out.grow aH);have cQ:=za (di.out.grow aH);have cR:=za (dj.out.grow aH);clear aH;have J:=Loc.start wr;go_upto_region 16 with(first|(with_reducible first|refine lld J ?_|((first|refine lbx J ?_|refine lal J ?_|refine lbs J ?_);clear J;intro ai j J)|(refine zc J ?_;clear J;intro j J)|refine ldB cO.out J ?_|refine ldB ch.out J ?_|refine ldB cj.out J ?_|refine ldB ck.out J ?_)|(go_at_call 24;refine(cN.out a d _ (a9.out _ J.below) (ba.out _ J.below) (bo.out _ J.below)).mono ?_;rintro e a5 ⟨c6,e2,d1,rfl,b9,aa⟩;have cZ:=za b9;clear b9;replace J:=(J.gave aa).conv (List.append_nil _);clear aa;dsimp only)|(go_at_call 25;refine(ds.out a d _ (a9.out _ J.below) (ba.out _ J.below) (bo.out _ J.below)).mono ?_;rintro e a5 ⟨eQ,e3,d2,rfl,bA,aa⟩;have da:=za bA;clear bA;replace J:=(J.gave aa).conv (List.append_nil _);clear aa;dsimp only)|(go_at_call 26;refine(dr.out a _ (a9.out _ J.below) (ba.out _ J.below)).mono ?_;rintro e a5 ⟨ee,eW,eX,e4,e9,rfl,bB,aa⟩;have db:=za bB;clear bB;replace J:=(J.gave aa).conv (List.append_nil _);clear aa;dsimp only)|(go_at_call 27;refine(dm.out r _ (a9.out _ J.below) (cf.out _ J.below)).mono ?_;rintro e a5 ⟨ed,e6,e8,rfl,aa⟩;replace J:=(J.gave aa).conv (List.append_nil _);clear aa;dsimp only)|(go_at_call 28;refine(dn.out _ (a9.out _ J.below)).mono ?_;rintro e a5 ⟨c7,eF,rfl,aa⟩;replace J:=(J.gave aa).conv (List.append_nil _);clear aa;dsimp only))
     have cL:=za (fun w' (hb:Below wr.heap.size wr w')=>dt.out.grow (a9.out w' hb));have cM:=za (fun w' (hb:Below wr.heap.size wr w')=>du.out.grow (a9.out w' hb));have cK:=za (fun w' (hb:Below wr.heap.size wr w')=>dk.out.grow (a9.out w' hb));go_upto_region 18 with(first|(with_reducible first|refine ldB ch.out J ?_|refine ldB cP.out J ?_|refine ldB cj.out J ?_|refine ldB cQ.out J ?_|refine ldB ck.out J ?_|refine ldB cR.out J ?_)|(go_at_call 29;(first|(with_reducible refine(cl.out a ⟨bS,⟨bT,bU,bO⟩,⟨bR,bQ,bP⟩⟩ ao _ (ba.out _ J.below) (cL.out _ J.below)).mono ?_)|(with_reducible refine(cl.out d ⟨ca,⟨cb,cc,bV⟩,⟨bZ,bY,bW⟩⟩ a1 _ (bo.out _ J.below) (cM.out _ J.below)).mono ?_));rintro e j ⟨rfl,hb⟩;replace J:=J.grow hb;clear hb;dsimp only)|(go_at_call 30;refine cg J (dq.out r ⟨bC,⟨bN,bM,bL⟩,⟨bK,bJ,bI⟩,bE,⟨bH,bG,bF⟩,bD⟩ _ (cf.out _ J.below) (cK.out _ J.below)) ?_;clear J;intro j J;dsimp only)|(go_at_call 31;refine cg J (Gy c7 t l _ (J.get List.mem_cons_self) (cW.out _ J.below)) ?_;clear J;intro j J;dsimp only))
     obtain⟨aK,dO⟩:∃ x,x=j:=⟨_,rfl⟩;subst dO;obtain⟨B,bs⟩:∃ B,B=wr.heap.size:=⟨_,rfl⟩;have c2:=(J.cut List.mem_cons_self).sp cJ.out;have dN:=(J.get List.mem_cons_self).m;have c1:=(J.cut (List.mem_cons_of_mem _ List.mem_cons_self)).sp;have c0:=(J.cut (List.mem_cons_of_mem _ (List.mem_cons_of_mem _ List.mem_cons_self))).sp db.out;have bw:=(J.get (List.mem_cons_of_mem _ (List.mem_cons_of_mem _ List.mem_cons_self))).m;have cz:=(J.cut (List.mem_cons_of_mem _ (List.mem_cons_of_mem _ (List.mem_cons_of_mem _ List.mem_cons_self)))).sp da.out;have b4:=(J.cut (List.mem_cons_of_mem _ (List.mem_cons_of_mem _ (List.mem_cons_of_mem _ (List.mem_cons_of_mem _ List.mem_cons_self))))).sp cZ.out;have hs:=J.below.size;have bu:=J.below;have c3:=JH (x:=c6) (J.heap (.tail _ (.tail _ .head)));have b6:=SpP.box cz (J.heap (.tail _ .head));have bh:=J.cell .head 1;have bi:=J.cell .head 2;have bj:=J.cell .head 4;rw[<- bs]at c2 c1 c0 b4 b6 hs bu;have cI:=za (fun w' (h:Below B aK w')=>cd.out.trans ((bu.trans h).mono (by rw[bs];exact cd.out.size)));simp only[List.getElem?_cons_succ,List.getElem?_cons_zero]at bh bi bj;clear cz J bs bu;obtain⟨et,eK,bz,cy⟩:=c2;obtain⟨⟨e1,eN,b2,cv⟩,⟨e0,eM,aN,cu⟩,⟨ez,eL,b1,ct⟩,dS,dU,dW⟩:=c1;obtain⟨er,eJ,bx,cx⟩:=c0;obtain⟨eO,aW,e5⟩:=ee;obtain⟨eP,bl,e7⟩:=c7;obtain⟨b9,⟨eV,bn,eU⟩,⟨eS,bm,eR⟩,bA,⟨eI,bk,eG⟩,bB⟩:=ed;dsimp only at bh bi bj bz cy b2 cv aN cu b1 ct dS dU dW bx cx bw dN;replace bw:aW<=9223372036854775807:=bw;have dB:=za c3;have bc:=za b6;have cn:=za bh;have bb:=za bi;have cp:=za bj;have dw:=za bz;have dv:=za bx;have dA:=za b2;have dz:=za aN;have dy:=za b1;clear c3 b6 bh bi bj bz bx b2 aN b1;have J:=Loc.start aK;go_upto_region 19 with(first|(with_reducible refine ldB dB.out J ?_)|(go_at_call 32;refine(Z7 c6 B _ hs b4).mono ?_;rintro e a5 ⟨rfl,bf⟩;dsimp only)|(with_reducible first|refine lld J ?_|((first|refine lbx J ?_|refine lal J ?_|refine lbs J ?_);clear J;intro ai j J)|(refine zc J ?_;clear J;intro j J)))
     obtain⟨ej,c5,c4⟩:=(bc.out.like bf).reads 0 (by decide);have aL:=za c5;have aO:=Nat.le_trans hs bf.below.size;clear c5 J b4;have J:=Loc.start a5;go_wp2_with (first|(with_reducible refine ldB aL.out J ?_)|(go_at_call 32;refine(Z7 ej B _ aO c4).mono ?_;rintro e c8 ⟨rfl,aM⟩;dsimp only)|(with_reducible first|refine lld J ?_|((first|refine lbx J ?_|refine lal J ?_|refine lbs J ?_);clear J;intro ai j J)|(refine zc J ?_;clear J;intro j J)));have hlk:=bf.trans aM;clear aL J aO c4 bf aM;go_loopw [30] (fun c wr=>∃ o:Nat,o<=aW∧c=.int .i64 o∧jq B aK wr) (fun c _=>aW - (intOf c).toNat)
     case atStart=>exact⟨0,Nat.zero_le _,rfl,hlk⟩
     case round=>
      clear hlk;obtain⟨o,be,rfl,hlk⟩:=hrel;by_cases av:o<aW
      ·have hp:=dv.out (by omega)
       subst hp;obtain⟨x,a7,aF⟩:=(cx.like hlk).reads o av;have aL:=za a7;have aO:=Nat.le_trans hs hlk.below.size;clear a7;have J:=Loc.start wr;go_wp2_with (first|(with_reducible refine ldB aL.out J ?_)|(go_at_call 32;refine(Z7 x B _ aO aF).mono ?_;rintro e c8 ⟨rfl,aM⟩;dsimp only)|(with_reducible first|refine lld J ?_|((first|refine lbx J ?_|refine lal J ?_|refine lbs J ?_);clear J;intro ai j J)|(refine zc J ?_;clear J;intro j J)));go_roundw
       case rel=>exact⟨o+1,by omega,by go_num,hlk.trans aM⟩
       case measure=>simp[intOf];omega
      ·obtain rfl:o=aW:=by omega
       clear av;go_wp2;go_loopw [31] (fun c wr=>∃ o:Nat,o<=bl∧c=.int .i64 o∧jq B aK wr) (fun c _=>bl - (intOf c).toNat)
       case atStart=>exact⟨0,Nat.zero_le _,rfl,hlk⟩
       case round=>
        clear hlk;obtain⟨o,be,rfl,hlk⟩:=hrel;by_cases av:o<bl
        ·have hp:=dw.out (by omega)
         subst hp;obtain⟨x,a7,aF⟩:=(cy.like hlk).reads o av;have aL:=za a7;have aO:=Nat.le_trans hs hlk.below.size;clear a7;have J:=Loc.start wr;go_wp2_with (first|(with_reducible refine ldB aL.out J ?_)|(go_at_call 32;refine(Z7 x B _ aO aF).mono ?_;rintro e c8 ⟨rfl,aM⟩;dsimp only)|(with_reducible first|refine lld J ?_|((first|refine lbx J ?_|refine lal J ?_|refine lbs J ?_);clear J;intro ai j J)|(refine zc J ?_;clear J;intro j J)));go_roundw
         case rel=>exact⟨o+1,by omega,by go_num,hlk.trans aM⟩
         case measure=>simp[intOf];omega
        ·obtain rfl:o=bl:=by omega
         clear av;go_wp2;go_loopw [32] (fun c wr=>∃ o:Nat,o<=bn∧c=.int .i64 o∧jq B aK wr) (fun c _=>bn - (intOf c).toNat)
         case atStart=>exact⟨0,Nat.zero_le _,rfl,hlk⟩
         case round=>
          clear hlk;obtain⟨o,be,rfl,hlk⟩:=hrel;have aj:=za (zd.cell (P:=prog) Jz (qS (hlk.sl cn.out)) (hlk.sl cn.out));have J:=Loc.start wr;by_cases av:o<bn
          ·have hp:=dA.out (by omega)
           subst hp;obtain⟨aT,⟨aC,cA,ay⟩,aV,ek,aU⟩:=(cv.like hlk).ex o av;have aA:=za ay;have aR:=za aC;have aQ:=za aU;have br:=za aV;clear aC ay aV aU;go_wp2_with (first|(with_reducible refine ldB aj.out J ?_)|(refine X7 Uu rfl rfl rfl rfl jk.sz aA.out aR.out aQ.out br.out ?_)|(with_reducible first|refine lld J ?_|((first|refine lbx J ?_|refine lal J ?_|refine lbs J ?_);clear J;intro ai j J)|(refine zc J ?_;clear J;intro j J)));go_roundw
           case rel=>exact⟨o+1,by omega,by go_num,hlk.trans (jq.set2 aA.out aQ.out aT .int .int)⟩
           case measure=>simp[intOf];omega
          ·obtain rfl:o=bn:=by omega
           clear av;go_wp2_with (with_reducible first|refine ldB aj.out J ?_|refine lld J ?_|((first|refine lbx J ?_|refine lal J ?_|refine lbs J ?_);clear J;intro ai j J)|(refine zc J ?_;clear J;intro j J));clear aj J;go_loopw [33] (fun c wr=>∃ o:Nat,o<=bm∧c=.int .i64 o∧jq B aK wr) (fun c _=>bm - (intOf c).toNat)
           case atStart=>exact⟨0,Nat.zero_le _,rfl,hlk⟩
           case round=>
            clear hlk;obtain⟨i,eC,rfl,hlk⟩:=hrel;have aj:=za (zd.cell (P:=prog) QP (qS (hlk.sl bb.out)) (hlk.sl bb.out));have J:=Loc.start wr;by_cases av:i<bm
            ·have hp:=dz.out (by omega)
             subst hp;obtain⟨⟨eB,fn,eA⟩,R,dL,ey,of,b0,cr⟩:=(cu.like hlk).ex i av;obtain⟨c9,dP⟩:∃ x,x=wr:=⟨_,rfl⟩;subst dP;dsimp only at R dL b0 cr;have cq:=za R;have dx:=za b0;have aE:=jq.refl B c9;clear R b0;go_wp2_with (with_reducible first|refine ldB aj.out J ?_|refine lld J ?_|((first|refine lbx J ?_|refine lal J ?_|refine lbs J ?_);clear J;intro ai j J)|(refine zc J ?_;clear J;intro j J));clear aj J;go_loopw [34] (fun c wr=>∃ o:Nat,o<=fn∧c=.int .i64 o∧jq B c9 wr) (fun c _=>fn - (intOf c).toNat)
             case atStart=>exact⟨0,Nat.zero_le _,rfl,aE⟩
             case round=>
              clear aE;obtain⟨o,be,rfl,aE⟩:=hrel;have bv:=hlk.trans aE;have aj:=za (zd.cell (P:=prog) QP (qS (bv.sl bb.out)) (bv.sl bb.out));have bc:=za (zd.cell (P:=prog) Jz (qS (aE.sl cq.out)) (aE.sl cq.out));have J:=Loc.start wr;by_cases dM:o<fn
              ·have hp:=dx.out (by omega)
               subst hp;obtain⟨aT,⟨aC,cA,ay⟩,aV,ek,aU⟩:=(cr.like aE).ex o dM;have aA:=za ay;have aR:=za aC;have aQ:=za aU;have br:=za aV;clear aC ay aV aU;go_wp2_with (first|(with_reducible first|refine ldB aj.out J ?_|refine ldB bc.out J ?_)|(refine X7 Uu rfl rfl rfl rfl jk.sz aA.out aR.out aQ.out br.out ?_)|(with_reducible first|refine lld J ?_|((first|refine lbx J ?_|refine lal J ?_|refine lbs J ?_);clear J;intro ai j J)|(refine zc J ?_;clear J;intro j J)));go_roundw
               case rel=>exact⟨o+1,by omega,by go_num,aE.trans (jq.set2 aA.out aQ.out aT .int .int)⟩
               case measure=>simp[intOf];omega
              ·obtain rfl:o=fn:=by omega
               go_wp2_with (with_reducible first|refine ldB aj.out J ?_|refine ldB bc.out J ?_|refine lld J ?_|((first|refine lbx J ?_|refine lal J ?_|refine lbs J ?_);clear J;intro ai j J)|(refine zc J ?_;clear J;intro j J));go_roundw
               case rel=>exact⟨i+1,by omega,by go_num,bv⟩
               case measure=>simp[intOf];omega
            ·obtain rfl:i=bm:=by omega
             clear av;go_wp2_with (with_reducible first|refine ldB aj.out J ?_|refine lld J ?_|((first|refine lbx J ?_|refine lal J ?_|refine lbs J ?_);clear J;intro ai j J)|(refine zc J ?_;clear J;intro j J));clear aj J;go_loopw [35] (fun c wr=>∃ o:Nat,o<=bk∧c=.int .i64 o∧jq B aK wr) (fun c _=>bk - (intOf c).toNat)
             case atStart=>exact⟨0,Nat.zero_le _,rfl,hlk⟩
             case round=>
              clear hlk;obtain⟨o,be,rfl,hlk⟩:=hrel;have aj:=za (zd.cell (P:=prog) zfZ (qS (hlk.sl cp.out)) (hlk.sl cp.out));have J:=Loc.start wr;by_cases av:o<bk
              ·have hp:=dy.out (by omega)
               subst hp;obtain⟨aT,aC,cA,ay⟩:=(ct.like hlk).ex o av;have aA:=za ay;have aR:=za aC;clear aC ay;go_wp2_with (first|(with_reducible refine ldB aj.out J ?_)|(refine K8 Uu rfl rfl rfl rfl zfV.sz aA.out aR.out ?_)|(with_reducible first|refine lld J ?_|((first|refine lbx J ?_|refine lal J ?_|refine lbs J ?_);clear J;intro ai j J)|(refine zc J ?_;clear J;intro j J)));go_roundw
               case rel=>exact⟨o+1,by omega,by go_num,hlk.trans (jq.set aA.out aT .str)⟩
               case measure=>simp[intOf];omega
              ·obtain rfl:o=bk:=by omega
               go_wp2_with (with_reducible first|refine ldB aj.out J ?_|refine lld J ?_|((first|refine lbx J ?_|refine lal J ?_|refine lbs J ?_);clear J;intro ai j J)|(refine zc J ?_;clear J;intro j J));go_roundw
               case rel=>exact⟨k+1,by omega,by go_num,cI.out _ hlk.below⟩
               case measure=>simp[intOf];omega
    ·obtain rfl:k=2:=by omega
     have cH:=za (aY.out _ (aZ.out.trans (a4.mono aZ.out.size)));go_wp2
     (try simp only[Exit.inBlock,Exit.then]);refine rt1 ?_
     exact⟨rfl,cH.out⟩
end Go.Proofs.YtplcndmdkabmeaaGreatDoor
