/- The walk over the reference's CheckPictures. Conditions: what they read lies in memory that was there. | The walk over pictureIs. Conditions: what it reads lies in memory that was there. -/
import Derived.Deep.CutBlock
import Derived.Test.YtplcndmdkabmeaaGreatDoorPica
import Derived.Test.YtplcndmdkabmeaaGreatDoorGue
import Derived.Test.YtplcndmdkabmeaaGreatDoorPicb
set_option linter.unusedSimpArgs false
set_option linter.unusedVariables false
set_option maxRecDepth 100000
namespace Go.Proofs.YtplcndmdkabmeaaGreatDoor
open Go.Proofs.Tryz
open Go.RowKit
set_option maxHeartbeats 1600000
theorem YX {o:Type}{f:o->Int}{l:List o}(h:qr (l.map f)=0):∀ x∈l,f x=0:=by
 induction l with
 | nil=>intro x g;cases g
 | cons a l ih=>
  intro x g;have i:f a=0:=by
   by_cases j:f a=0
   ·exact j
   ·simp[qr,j]at h
  have p:qr (l.map f)=0:=by simpa [qr,i] using h
  rcases List.mem_cons.1 g with rfl|g
  ·exact i
  ·exact ih p x g
structure jN (d:Res):Prop where
 span:zh d.span=0
 ins:inS d.l
 asc:Zr d.l
 le:d.l.length<=60
theorem jN.of {p:Pg}{is:Nat->Ins}{d:Res}(h:q9 p is d=0) (i:zf p is=0):jN d:=by
 have g:yH (d.gu ⟨none,d.l.length,0⟩) d.l:=yH.of h i rfl;exact⟨g.span,g.ins,g.asc,g.le⟩
structure zS (p:Pg) (d:Pd):Prop where
 vars:(d.vars.length:Int)=p.vars
 fields:d.fields.length=p.n
 rows:∀ k,k<d.fields.length->((d.row k).length:Int)=p.fields
 vg:∀ k,k<d.vars.length->jN (d.var k)
 fg:∀ k j,k<d.fields.length->j<(d.row k).length->jN (d.field k j)
theorem qX {g:Type}{l:List g}{d:g}{k:Nat}(h:k<l.length):l.getD k d∈l:=by
 rw[List.getD_eq_getElem?_getD,List.getElem?_eq_getElem h];exact List.getElem_mem h
theorem zS.of {p:Pg}{is:Nat->Ins}{d:Pd}(h:zE p is d=0) (R:zf p is=0) (hn:d.none=false):zS p d:=by
 obtain⟨ae,vs,g⟩:=d;dsimp only at hn;subst hn;rw[Qg]at h;split at h
 ·cases h
 rename_i U;split at h
 ·rename_i t;exact absurd h t
 rename_i t;have C:Jt p is (vs::g)=0:=by omega
 rw[Q4]at C;have I:=YX C;have o:Q5 p ⟨false,vs,g⟩=false:=by simpa using U
 unfold Q5 at o;simp only[Bool.or_eq_false_iff,bne_eq_false_iff_eq]at o;obtain⟨⟨aa,af⟩,P⟩:=o;have ab:∀ k,k<g.length->((g.getD k []).length:Int)=p.fields:=fun k hk=>by
  by_cases T:((g.getD k []).length:Int)=p.fields
  ·exact T
  ·have:=qg (q:=fun i=>((Pd.row ⟨false,vs,g⟩ i).length:Int) != p.fields) hk (by simpa using T)
   rw[this]at P;cases P
 refine⟨aa,by dsimp only;omega,ab,fun k hk=>jN.of (I _ ?_) R,fun k j hk ac=>jN.of (I _ ?_) R⟩
 ·exact List.mem_flatten.2 ⟨vs,List.mem_cons_self,qX hk⟩
 ·exact List.mem_flatten.2 ⟨g.getD k [],List.mem_cons_of_mem _ (qX hk),qX ac⟩
theorem zS.none {p:Pg}{is:Nat->Ins}{d:Pd}(h:zE p is d=0) (hn:d.none=true):d=zC:=by
 obtain⟨j,i,g⟩:=d;dsimp only at hn;subst hn;rw[Xd]at h;split at h
 ·cases h
 rename_i o;obtain rfl:i=[]:=List.eq_nil_of_length_eq_zero (by omega);obtain rfl:g=[]:=List.eq_nil_of_length_eq_zero (by omega);rfl
theorem ju.of {p:Pg}{d:Pd}(h:zS p d) (i:UE p):ju d:=by
 have t:=i.v2;have C:=i.n1;have I:=i.f2;refine⟨by have:=h.vars;omega,by have:=h.fields;omega,fun k g=>by have:=h.rows k g;omega,fun k g=>by have:=(h.vg k g).le;omega,fun k o g j=>by have:=(h.fg k o g j).le;omega⟩
theorem ju.none:ju zC:=⟨by decide,by decide,fun k g=>absurd g (Nat.not_lt_zero k),fun k g=>absurd g (Nat.not_lt_zero k),fun k i g=>absurd g (Nat.not_lt_zero k)⟩
theorem Zm.of {p:Pg}{d e:Pd}(h:zS p d) (g : zS p e):Zm d e:=by
 refine⟨by have:=h.vars;have:=g.vars;omega,by rw[h.fields,g.fields],fun k i=>?_⟩;have j:=h.rows k i;have o:=g.rows k (by rw[g.fields,<- h.fields];exact i);omega
theorem zeq {s:zm}(h:zh s=0):both s s=s:=by
 obtain⟨_,_,g⟩:=zu h;obtain⟨n,j,i⟩:=s;cases n with
 | true=>
  obtain⟨rfl,rfl⟩:=g rfl;rfl
 | false=>simp[both,min2,max2]
theorem za3 {l:List Int}(h:Zr l):yQ l l=l:=by
 obtain⟨g,i⟩:=Qn l l;exact KP g h (fun x=>by rw[i];simp)
theorem zco {d:Res}(h:jN d):qx both d d=d:=by
 obtain⟨i,j,o,g,dl⟩:=d;simp only[qx,zeq h.span,za3 h.asc,Bool.or_self]
theorem KA {ds:List Res}(h:∀ k,k<ds.length->jN (ds.getD k zo)):qz both ds ds=ds:=by
 apply List.ext_getElem
 ·simp[j4]
 ·intro k j g
  have i:=zco (h k g);simp only[j4,List.getElem_map,List.getElem_range];rw[i,List.getD_eq_getElem?_getD,List.getElem?_eq_getElem g];rfl
theorem yn {p:Pg}{d:Pd}(h:zS p d) (hn:d.none=false):zW both d d=d:=by
 obtain⟨I,i,g⟩:=d;dsimp only at hn;subst hn;have o:qz both i i=i:=KA h.vg;have j:qB both ⟨false,i,g⟩ ⟨false,i,g⟩ g.length=g:=by
  apply List.ext_getElem
  ·simp[qB]
  ·intro k o j
   simp only[qB,List.getElem_map,List.getElem_range];show qz both (g.getD k []) (g.getD k [])=_
   rw[KA (fun C t=>h.fg k C j t),List.getD_eq_getElem?_getD,List.getElem?_eq_getElem j];rfl
 show Pd.mk false _ _=_
 rw[o];congr 1
theorem zg3 {p:Pg}{is:Nat->Ins}{d:Res}(h:q9 p is d=0):∀ x∈d.l,qh p is x=true:=by
 intro x R;obtain⟨k,o,P⟩:=List.mem_iff_getElem.1 R;have i:jz p is d.l=false:=by
  have g:Qb p is (d.gu zi) d.l=0:=h;unfold Qb at g;by_cases q:zh (d.gu zi).span=0
  ·rw[if_neg (by omega)]at g
   by_cases t:jz p is d.l=true
   ·rw[if_pos t]at g;omega
   ·simpa using t
  ·rw[if_pos q]at g;exact absurd g q
 have j:(!qh p is (d.l.getD k 0))=false:=by
  cases C:(!qh p is (d.l.getD k 0)) with
  | false=>rfl
  | true=>
   have I:=qg (q:=fun k=>!qh p is (d.l.getD k 0)) o C;unfold jz at i;rw[I]at i;cases i
 rw[List.getD_eq_getElem?_getD,List.getElem?_eq_getElem o]at j;simpa [P] using j
theorem VU {p:Pg}{is:Nat->Ins}{x:Int}(h:qh p is x=true):∃ m:Nat,x=m∧m<p.n∧(is m).kind=11:=by
 simp only[qh,Bool.and_eq_true,decide_eq_true_eq,beq_iff_eq]at h;exact⟨x.toNat,by omega,by omega,h.2.2⟩
structure OkD (p:Pg) (is:Nat->Ins) (d:Res):Prop where
 span:zh d.span=0
 sites:∀ x∈d.l,qh p is x=true
 asc:Zr d.l
theorem zer {l:List Int}(h:Zr l):JA l=false:=by
 cases j:JA l with
 | false=>rfl
 | true=>
  obtain⟨k,t,o⟩:=KO.1 (show qa _ _=true from j);have g:l.getD (k+1) 0<=l.getD k 0:=by simpa using o
  have i:k+1<l.length:=by omega
  have p:=List.pairwise_iff_getElem.1 h k (k+1) (by omega) i (by omega);rw[List.getD_eq_getElem?_getD,List.getD_eq_getElem?_getD,List.getElem?_eq_getElem i,List.getElem?_eq_getElem (by omega)]at g;simp only[Option.getD_some]at g;omega
theorem OkD.of {p:Pg}{is:Nat->Ins}{d:Res}(h:q9 p is d=0):OkD p is d:=by
 have g:Qb p is (d.gu zi) d.l=0:=h;unfold Qb at g;by_cases q:zh (d.gu zi).span=0
 ·refine⟨q,zg3 h,?_⟩
  rw[if_neg (by omega)]at g;by_cases i:jz p is d.l=true
  ·rw[if_pos i]at g;omega
  ·rw[if_neg i]at g
   by_cases j:JA d.l=true
   ·rw[if_pos j]at g;omega
   ·exact zdj (by simpa using j)
 ·rw[if_pos q]at g;exact absurd g q
theorem OkD.right {p:Pg}{is:Nat->Ins}{d:Res}(h:OkD p is d):q9 p is d=0:=by
 show Qb p is (d.gu zi) d.l=0
 unfold Qb;have i:jz p is d.l=false:=qu fun k j=>by
  have g:=h.sites (d.l.getD k 0) (qX j);show (!qh p is (d.l.getD k 0))=false
  rw[g];rfl
 rw[if_neg (by have:zh (d.gu zi).span=0:=h.span;omega),i,zer h.asc];rfl
theorem OkD.few {p:Pg}{is:Nat->Ins}{d:Res}(h:OkD p is d) (g:zf p is=0):jN d:=jN.of h.right g
structure q2 (p:Pg) (is:Nat->Ins) (d:Pd):Prop where
 none:d.none=false
 vars:(d.vars.length:Int)=p.vars
 fields:d.fields.length=p.n
 rows:∀ k,k<p.n->((d.row k).length:Int)=p.fields
 vg:∀ g∈d.vars,OkD p is g
 fg:∀ k,k<p.n->∀ g∈d.row k,OkD p is g
 stray:∀ k:Nat,k<p.n->qh p is k=false->∀ g∈d.row k,qD g=true
theorem q2.of {p:Pg}{is:Nat->Ins}{d:Pd}(h:zE p is d=0) (hn:d.none=false):q2 p is d:=by
 obtain⟨ar,I,g⟩:=d;dsimp only at hn;subst hn;rw[Qg]at h;split at h
 ·cases h
 rename_i af;split at h
 ·rename_i T;exact absurd h T
 rename_i T;split at h
 ·cases h
 rename_i aq;have U:Jt p is (I::g)=0:=by omega
 rw[Q4]at U;have aa:=YX U;have R:Q5 p ⟨false,I,g⟩=false:=by simpa using af
 unfold Q5 at R;simp only[Bool.or_eq_false_iff,bne_eq_false_iff_eq]at R;obtain⟨⟨ai,au⟩,ab⟩:=R;have aj : g.length=p.n:=by omega
 have ak:∀ k,k<g.length->((g.getD k []).length:Int)=p.fields:=fun k t=>by
  by_cases ad:((g.getD k []).length:Int)=p.fields
  ·exact ad
  ·have:=qg (q:=fun C=>((Pd.row ⟨false,I,g⟩ C).length:Int) != p.fields) t (by simpa using ad)
   rw[this]at ab;cases ab
 refine⟨rfl,ai,aj,fun k t=>ak k (by omega),fun i j=>OkD.of (aa i (List.mem_flatten.2 ⟨I,List.mem_cons_self,j⟩)),fun k t i j=>OkD.of (aa i (List.mem_flatten.2 ⟨g.getD k [],List.mem_cons_of_mem _ (qX (by omega)),j⟩)),fun k t ao i j=>?_⟩;have P:Zb p is g=false:=by simpa using aq
 cases al:qD i with
 | true=>rfl
 | false=>
  have ag:QF (g.getD k [])=true:=by
   obtain⟨o,ac,an⟩:=List.mem_iff_getElem.1 j;refine qg (q:=fun o=>!qD ((g.getD k []).getD o zo)) (k:=o) ac ?_;show (!qD ((g.getD k []).getD o zo))=true
   have ae:(g.getD k []).getD o zo=i:=by
    rw[List.getD_eq_getElem?_getD,List.getElem?_eq_getElem ac];exact an
   rw[ae,al];rfl
  have ah:=qg (q:=fun C=>!qh p is C&&QF (g.getD C [])) (n:=g.length) (k:=k) (by omega) (by show (!qh p is k&&QF (g.getD k []))=true;rw[ao,ag];rfl);unfold Zb at P;rw[ah]at P;cases P
theorem q2.right {p:Pg}{is:Nat->Ins}{d:Pd}(h:q2 p is d):zE p is d=0:=by
 obtain⟨ao,C,fs⟩:=d;obtain⟨I,P,R,T,U,aa,ab⟩:=h;dsimp only at I P R T U aa ab;subst I;rw[Qg];have hl:Q5 p ⟨false,C,fs⟩=false:=by
  unfold Q5;have ad:qa (fun i=>((Pd.row ⟨false,C,fs⟩ i).length:Int) != p.fields) fs.length=false:=qu fun k t=>by
   have:=T k (by omega);simpa using this
  rw[ad];simp[P,R]
 have ai:Jt p is (C::fs)=0:=by
  rw[Q4];have:∀ l:List Res,(∀ g∈l,q9 p is g=0)->qr (l.map (q9 p is))=0:=by
   intro l;induction l with
   | nil=>intro _;rfl
   | cons a l ih=>
    intro hl;rw[List.map_cons,qr,if_pos (hl a List.mem_cons_self)];exact ih fun g o=>hl g (List.mem_cons_of_mem _ o)
  refine this _ fun g o=>?_
  obtain⟨l,hl,ac⟩:=List.mem_flatten.1 o;rcases List.mem_cons.1 hl with rfl|hl
  ·exact(U g ac).right
  ·obtain⟨k,t,ah⟩:=List.mem_iff_getElem.1 hl
   refine(aa k (by omega) g ?_).right;show g∈fs.getD k []
   rw[List.getD_eq_getElem?_getD,List.getElem?_eq_getElem t];simpa [ah] using ac
 have aj:Zb p is fs=false:=qu fun k t=>by
  cases ak:qh p is k with
  | true=>rfl
  | false=>
   have ae:QF (fs.getD k [])=false:=qu fun j ag=>by
    have af:=ab k (by omega) ak ((fs.getD k []).getD j zo) (qX ag);rw[af];rfl
   show (!false&&QF (fs.getD k []))=false
   rw[ae,Bool.and_false]
 rw[hl,ai,aj];simp
theorem q2.r {p:Pg}{is:Nat->Ins}{d:Pd}(h:q2 p is d) (g:zf p is=0):zS p d:=zS.of h.right g h.none
theorem zg4:∀ args w,(callFunc 61 args).run prog w=.ok (.enter 61 args) w:=fun args w=>by kernel_rfl
theorem Qf {p:Pg}{is:Nat->Ins}{d e:Pd}(h:cp2 p is d e=0):ju d∧ju e∧(d.none=false->e.none=false->Zm d e):=by
 obtain⟨g,o,t⟩:=Xe h;have C:=(zp g).1;refine⟨?_,?_,fun i j=>Zm.of (zS.of o g i) (zS.of t g j)⟩
 ·cases i:d.none with
  | true=>rw[zS.none o i];exact ju.none
  | false=>exact ju.of (zS.of o g i) C
 ·cases j:e.none with
  | true=>rw[zS.none t j];exact ju.none
  | false=>exact ju.of (zS.of t g j) C
theorem zes (p:Pg) (is:Nat->Ins) (x y:Pv) (d e:Pd) (w:World) (hn:p.n<=9223372036854775807) (hc:zy w p is) (t:zq w x d) (C:zq w y e) (i:cp2 p is d e≠0):
  Calls prog 24 #[p.v,x.v,y.v] w fun q g=>q=.returned (.tuple #[Ks.v,.int .i64 (cp2 p is d e)])∧Below w.heap.size w g:=by
 have o:=za (fun (b:Nat) (g : World) (j:Below w.heap.size w g) (R:g.heap[b]? = some (.cells (x.cells++y.cells).toArray 54 (0,0)))=>(show Calls prog 58 #[p.v,.slice (some ⟨b,0,none⟩) 2 2] g fun q T=>q=.returned (.int .i64 (cp2 p is d e))∧Below g.heap.size g T from Qh p is (some ⟨b,0,none⟩) 2 2 (QE x y) (QE d e) g hn (hc.grow j) (zdk R (t.grow j) (C.grow j))));generalize cp2 p is d e=c at o i ⊢;have k0:(c != 0)=true:=by simpa using i
 clear i hc t C;have J:=Loc.start w;go_enter func24,ntmps24;go_wp2_with (first|(with_reducible first|refine lld J ?_|((first|refine lbx J ?_|refine lal J ?_|refine lbs J ?_);clear J;intro P I J)|(refine zc J ?_;clear J;intro I J))|(go_at_call 58;refine cg J (o.out P _ J.below (J.heap cIn)) ?_;clear J;intro I J;dsimp only));refine rt2 ?_;exact⟨rfl,J.below⟩
theorem za4 (p:Pg) (is:Nat->Ins) (x y:Pv) (d e:Pd) (w:World) (hn:p.n<=9223372036854775807) (hc:zy w p is) (o:zq w x d) (t:zq w y e) (j:cp2 p is d e=0):
  Calls prog 24 #[p.v,x.v,y.v] w fun q g=>∃ r:Pv,q=.returned (.tuple #[r.v,.int .i64 0])∧yd w g r (jM both d e):=by
 have C:=za (fun (b:Nat) (g : World) (i:Below w.heap.size w g) (ah:g.heap[b]? = some (.cells (x.cells++y.cells).toArray 54 (0,0)))=>(show Calls prog 58 #[p.v,.slice (some ⟨b,0,none⟩) 2 2] g fun q aq=>q=.returned (.int .i64 (cp2 p is d e))∧Below g.heap.size g aq from Qh p is (some ⟨b,0,none⟩) 2 2 (QE x y) (QE d e) g hn (hc.grow i) (zdk ah (o.grow i) (t.grow i))));rw[j]at C;have R:=za (fun g (i:Below w.heap.size w g)=>Ua 60 both YP Qy x y d e g (o.grow i) (t.grow i) (Qf j).1 (Qf j).2.1 (Qf j).2.2);clear hc o t j;have J:=Loc.start w;go_enter func24,ntmps24;go_wp2_with (first|(with_reducible first|refine lld J ?_|((first|refine lbx J ?_|refine lal J ?_|refine lbs J ?_);clear J;intro ab P J)|(refine zc J ?_;clear J;intro P J))|(go_at_call 58;refine cg J (C.out ab _ J.below (J.heap cIn)) ?_;clear J;intro P J;dsimp only)|(go_at_call 59;refine(R.out _ J.below).mono ?_;rintro q ar ⟨⟨aj,⟨ao,an,al⟩,⟨ad,fn,ac⟩⟩,rfl,af,ae,ak,aa,U,T,ai,ag,I⟩;replace J:=J.gave I;simp only[aX]at J;clear I;dsimp only));refine rt2 ?_;exact⟨⟨aj,⟨ao,an,al⟩,⟨ad,fn,ac⟩⟩,rfl,af,ae,ak,aa,U,T,ai,ag,J.drop (List.sublist_append_right [_,_,_,_,_] _) (fun _ h=>h)⟩
theorem zcp (p:Pg) (is:Nat->Ins) (x y:Pv) (d e:Pd) (w:World) (hn:p.n<=9223372036854775807) (hc:zy w p is) (t:zq w x d) (C:zq w y e) (i:cp2 p is d e≠0):
  Calls prog 25 #[p.v,x.v,y.v] w fun q g=>q=.returned (.tuple #[Ks.v,.int .i64 (cp2 p is d e)])∧Below w.heap.size w g:=by
 have o:=za (fun (b:Nat) (g : World) (j:Below w.heap.size w g) (R:g.heap[b]? = some (.cells (x.cells++y.cells).toArray 54 (0,0)))=>(show Calls prog 58 #[p.v,.slice (some ⟨b,0,none⟩) 2 2] g fun q T=>q=.returned (.int .i64 (cp2 p is d e))∧Below g.heap.size g T from Qh p is (some ⟨b,0,none⟩) 2 2 (QE x y) (QE d e) g hn (hc.grow j) (zdk R (t.grow j) (C.grow j))));generalize cp2 p is d e=c at o i ⊢;have k0:(c != 0)=true:=by simpa using i
 clear i hc t C;have J:=Loc.start w;go_enter func25,ntmps25;go_wp2_with (first|(with_reducible first|refine lld J ?_|((first|refine lbx J ?_|refine lal J ?_|refine lbs J ?_);clear J;intro P I J)|(refine zc J ?_;clear J;intro I J))|(go_at_call 58;refine cg J (o.out P _ J.below (J.heap cIn)) ?_;clear J;intro I J;dsimp only));refine rt2 ?_;exact⟨rfl,J.below⟩
theorem zet (p:Pg) (is:Nat->Ins) (x y:Pv) (d e:Pd) (w:World) (hn:p.n<=9223372036854775807) (hc:zy w p is) (o:zq w x d) (t:zq w y e) (j:cp2 p is d e=0):
  Calls prog 25 #[p.v,x.v,y.v] w fun q g=>∃ r:Pv,q=.returned (.tuple #[r.v,.int .i64 0])∧yd w g r (jM jf d e):=by
 have C:=za (fun (b:Nat) (g : World) (i:Below w.heap.size w g) (ah:g.heap[b]? = some (.cells (x.cells++y.cells).toArray 54 (0,0)))=>(show Calls prog 58 #[p.v,.slice (some ⟨b,0,none⟩) 2 2] g fun q aq=>q=.returned (.int .i64 (cp2 p is d e))∧Below g.heap.size g aq from Qh p is (some ⟨b,0,none⟩) 2 2 (QE x y) (QE d e) g hn (hc.grow i) (zdk ah (o.grow i) (t.grow i))));rw[j]at C;have R:=za (fun g (i:Below w.heap.size w g)=>Ua 61 jf zg4 X1 x y d e g (o.grow i) (t.grow i) (Qf j).1 (Qf j).2.1 (Qf j).2.2);clear hc o t j;have J:=Loc.start w;go_enter func25,ntmps25;go_wp2_with (first|(with_reducible first|refine lld J ?_|((first|refine lbx J ?_|refine lal J ?_|refine lbs J ?_);clear J;intro ab P J)|(refine zc J ?_;clear J;intro P J))|(go_at_call 58;refine cg J (C.out ab _ J.below (J.heap cIn)) ?_;clear J;intro P J;dsimp only)|(go_at_call 59;refine(R.out _ J.below).mono ?_;rintro q ar ⟨⟨aj,⟨ao,an,al⟩,⟨ad,fn,ac⟩⟩,rfl,af,ae,ak,aa,U,T,ai,ag,I⟩;replace J:=J.gave I;simp only[aX]at J;clear I;dsimp only));refine rt2 ?_;exact⟨⟨aj,⟨ao,an,al⟩,⟨ad,fn,ac⟩⟩,rfl,af,ae,ak,aa,U,T,ai,ag,J.drop (List.sublist_append_right [_,_,_,_,_] _) (fun _ h=>h)⟩
theorem zg5:∀ args w,(callFunc 150 args).run prog w=.ok (.enter 150 args) w:=fun args w=>by kernel_rfl
theorem zg6:∀ args w,(callFunc 148 args).run prog w=.ok (.enter 148 args) w:=fun args w=>by kernel_rfl
abbrev QN (d e:Res):Bool:=Gz (d.gu zi) (e.gu zi) d.l e.l
def qF (ds es:List Res):Bool:=qT ds.length es.length fun k=>QN (ds.getD k zo) (es.getD k zo)
def yP (g i:List (List Res)):Bool:=qT g.length i.length fun k=>qF (g.getD k []) (i.getD k [])
def qt (d e:Pd):Bool:=if (d.none || e.none)=true then d.none else qF d.vars e.vars&&yP d.fields e.fields
theorem KB (s t:Sl) (ds es:List Res) (w:World) (i:qR w s ds) (ht:qR w t es):
  Calls prog 148 #[s.v,t.v] w fun q j=>q=.returned (.bool (qF ds es))∧Below w.heap.size w j:=by
 obtain⟨U,I,P⟩:=i.ex;obtain⟨aa,R,T⟩:=ht.ex;have o:=fun j (g:Below w.heap.size w j)=>zhe s t (fun k=>(ds.getD k zo).gu (U k)) (fun k=>(es.getD k zo).gu (aa k)) (fun k=>QN (ds.getD k zo) (es.getD k zo)) 150 j i.m ht.m (I.grow g) (R.grow g) zg5 (fun k ab ac ad C=>zaH ((ds.getD k zo).gu (U k)) ((es.getD k zo).gu (aa k)) (ds.getD k zo).l (es.getD k zo).l ad (((P k ab).grow g).grow C) (((T k ac).grow g).grow C))
 rw[show qT s.n t.n (fun k=>QN (ds.getD k zo) (es.getD k zo))=qF ds es by rw[i.n,ht.n];rfl]at o;have p:=za o;clear o i ht I P R T;obtain⟨sp,af,ae⟩:=s;obtain⟨ai,ah,ag⟩:=t;dsimp only[Sl.v]at p ⊢;have J:=Loc.start w;go_enter func148,ntmps148;go_wp2_with (first|fail|(go_at_call 149;refine cg J (p.out _ J.below) ?_;clear J;intro aj J;dsimp only));refine rt1 ?_;exact⟨rfl,J.below⟩
theorem UF (x y:Pv) (d e:Pd) (w:World) (o:zq w x d) (p:zq w y e):
  Calls prog 100 #[x.v,y.v] w fun q j=>q=.returned (.bool (qt d e))∧Below w.heap.size w j:=by
 have I:=za (fun j (i:Below w.heap.size w j)=>KB x.vars y.vars d.vars e.vars j (o.vars.grow i) (p.vars.grow i));obtain⟨ag,aa,ab⟩:=o.fields.ex;obtain⟨ah,ac,ad⟩:=p.fields.ex;have P:=fun j (i:Below w.heap.size w j)=>zhg x.fields y.fields ag ah (fun k=>qF (d.fields.getD k []) (e.fields.getD k [])) 148 j o.fields.m p.fields.m (aa.grow i) (ac.grow i) zg6 (fun k an ao aj U=>KB (ag k) (ah k) (d.fields.getD k []) (e.fields.getD k []) aj (((ab k an).grow i).grow U) (((ad k ao).grow i).grow U))
 rw[show qT x.fields.n y.fields.n (fun k=>qF (d.fields.getD k []) (e.fields.getD k []))=yP d.fields e.fields by rw[o.fields.n,p.fields.n];rfl]at P;have C:=za P;have g:=za (show qt d e=if (d.none || e.none)=true then d.none else qF d.vars e.vars&&yP d.fields e.fields from rfl);have ae:=o.e;have af:=p.e;clear o p aa ac ab ad P;obtain⟨ak,⟨aw,ax,aq⟩,⟨av,au,ar⟩⟩:=x;obtain⟨al,⟨a2,a3,ay⟩,⟨a1,a0,az⟩⟩:=y;dsimp only[Sl.v]at ae af I C;subst ae af;generalize qF d.vars e.vars=a at I g;generalize yP d.fields e.fields=b at C g;generalize qt d e=R at g ⊢;generalize d.none=ak at g ⊢;generalize e.none=al at g ⊢;have J:=Loc.start w;go_enter func100,ntmps100;cases ak with
 | true=>
  have t:=za (show R=true from g.out);go_wp2_with (with_reducible first|refine lld J ?_|(refine lbx J ?_;clear J;intro T ai J));refine rt1 ?_;exact⟨by rw[t.out];rfl,J.below⟩
 | false=>
  cases al with
  | true=>
   have t:=za (show R=false from g.out);go_wp2_with (with_reducible first|refine lld J ?_|(refine lbx J ?_;clear J;intro T ai J));refine rt1 ?_;exact⟨by rw[t.out];rfl,J.below⟩
  | false=>
   have t:=za (show R=(a&&b) from g.out);clear g;go_upto_region 4 with(with_reducible first|refine lld J ?_|(refine lbx J ?_;clear J;intro T ai J))
   refine zx [14,15,16,17,18,19,20,21,22,23,24,25,26,27,4] ?_
   iterate 5 refine qdv ?_
   refine qdk J (fun _ i J=>I.out _ J.below) ?_
   iterate 6 refine qda ?_
   refine yu J (fun _ i J=>C.out _ J.below) ?_
   iterate 2 refine qdv ?_
   refine dns J ?_;clear J;intro aj J;simp only[zr,sTa,sTb];go_wp2;refine rt1 ?_;exact⟨by rw[t.out];rfl,J.below⟩
theorem VV (a b:Sl) (ds:List Res) (w:World) (ha:qR w a ds) (hb:qR w b ds):
  Calls prog 65 #[a.v,b.v] w fun q p=>q=.returned (.bool true)∧Below w.heap.size w p:=by
 obtain⟨aj,af,hai⟩:=ha.ex;obtain⟨ak,ag,C⟩:=hb.ex;have ah:=ha.n;have ai:=hb.n;have ar:=ha.m;obtain⟨ax,a8,U,I⟩:=af.ex;obtain⟨ay,a9,aa,R⟩:=ag.ex;obtain⟨ap,aw,av⟩:=a;obtain⟨a1,a0,az⟩:=b;dsimp only at ah ai U I aa R hai C ar;subst ah ai;have ao:=za (fun k (T:k<ds.length) p (hb:Below w.heap.size w p)=>VC (ds.getD k zo) (aj k) (ak k) p ((hai k T).grow hb) ((C k T).grow hb));have ad:=za U;have ae:=za aa;have ab:=za I;have ac:=za R;clear ha hb af ag hai C U aa I R;dsimp only[Sl.v];have J:=Loc.start w;go_enter func65,ntmps65;go_wp2;go_loopw [5] (fun c wr=>∃ k:Nat,k<=ds.length∧c=.int .i64 k∧Loc w wr [] []) (fun c _=>ds.length - (intOf c).toNat)
 case atStart=>exact⟨0,Nat.zero_le _,rfl,J⟩
 case round=>
  obtain⟨k,T,rfl,J⟩:=hrel;by_cases g:k<ds.length
  ·obtain rfl:=ad.out (by omega)
   obtain rfl:=ae.out (by omega);clear ad ae;have j:=zd.agg (P:=prog) zO (ab.out k g).1 (ab.out k g).2 rfl;have o:=zd.agg (P:=prog) zO (ac.out k g).1 (ac.out k g).2 rfl;have i:=ao.out k g;generalize ds.getD k zo=d at j o i;generalize aj k=s at j i;generalize ak k=t at o i;obtain⟨a5,⟨a6,a4,a3⟩,a7,a2,dl⟩:=d;obtain⟨sp,aA,aB⟩:=s;obtain⟨aE,aC,aD⟩:=t;dsimp only[Res.gu]at j o i;have al:=za j;have an:=za o;have aq:=za i;clear j o i;go_upto_region 6 with(fail)
   refine zb [17,18,19,20,21,22,23,24,25,26] ?_
   iterate 3 refine qdv ?_
   refine qdl al.out ?_
   iterate 3 refine qdv ?_
   refine qdl an.out ?_;refine qdk J (fun _ hb J=>aq.out _ J.below) ?_;refine qdv ?_;refine dnd J ?_;clear J;intro aF J;simp only[zr,sTa,sTb];go_wp2;go_roundw
   case rel=>exact⟨k+1,by omega,by go_num,J⟩
   case measure=>simp[intOf];omega
  ·obtain rfl:k=ds.length:=by omega
   clear g;go_wp2;refine rt1 ?_;exact⟨rfl,J.below⟩
theorem za5 (x y:Pv) (d:Pd) (w:World) (j:zq w x d) (C:zq w y d):
  Calls prog 29 #[x.v,y.v] w fun q g=>q=.returned (.bool true)∧Below w.heap.size w g:=by
 have aj:=za (fun g (i:Below w.heap.size w g)=>VV x.vars y.vars d.vars g (j.vars.grow i) (C.vars.grow i));obtain⟨an,ad,ae⟩:=j.fields.ex;obtain⟨ao,af,ag⟩:=C.fields.ex;have U:=j.fields.n;have aa:=C.fields.n;have a2:=j.fields.m;rw[U]at ad ae;rw[aa]at af ag;have av:=za (fun k (T:k<d.fields.length) g (i:Below w.heap.size w g)=>VV (an k) (ao k) (d.fields.getD k []) g ((ae k T).grow i) ((ag k T).grow i));obtain⟨aE,aH,ab,P⟩:=(jR ad).ex;obtain⟨aF,aI,ac,R⟩:=(jR af).ex;have ak:=j.e;have al:=C.e;obtain⟨aQ,⟨a7,a8,a4⟩,⟨a6,aP,a5⟩⟩:=x;obtain⟨aS,⟨aC,aD,a9⟩,⟨aB,aR,aA⟩⟩:=y;dsimp only[Sl.v]at U aa ab P ac R ak al a2 aj;subst ak al U aa;have ah:=za ab;have ai:=za ac;have ar:=za P;have au:=za R;clear j C ad ae af ag ab P ac R;generalize d.none=a1;have J:=Loc.start w;go_enter func29,ntmps29;cases a1
 all_goals
  go_step;go_step;go_step
  ((with_reducible refine lbx J ?_);clear J;intro az aq J)
  ((with_reducible refine lbx J ?_);clear J;intro a0 aq J)
  go_wp2_with (first|(with_reducible refine lld J ?_)|(go_at_call 65;refine cg J (aj.out _ J.below) ?_;clear J;intro aq J;dsimp only));go_loopw [5] (fun c wr=>∃ k:Nat,k<=d.fields.length∧c=.int .i64 k∧Loc w wr [(a0,54,[_,.slice aC aD a9,.slice aB d.fields.length aA]),(az,54,[_,.slice a7 a8 a4,.slice a6 d.fields.length a5])] []) (fun c _=>d.fields.length - (intOf c).toNat)
  case atStart=>exact⟨0,Nat.zero_le _,rfl,J⟩
  case round=>
   obtain⟨k,T,rfl,J⟩:=hrel;by_cases I:k<d.fields.length
   ·obtain rfl:=ah.out (by omega)
    obtain rfl:=ai.out (by omega);clear ah ai;have o:=ar.out k I;have p:=au.out k I;rw[Nat.mul_one]at o p;have hs:=av.out k I;generalize an k=s at o hs;generalize ao k=t at p hs;obtain⟨sp,aJ,aK⟩:=s;obtain⟨aN,aL,aM⟩:=t;dsimp only[Sl.v]at o p hs;have aw:=za o;have ax:=za p;have ay:=za hs;clear o p hs;go_upto_region 6 with(with_reducible refine lld J ?_)
    refine zb [35,36,37,38,39,40,41,42,43,44,45,46] ?_
    iterate 4 refine qdv ?_
    refine qdl aw.out ?_
    iterate 4 refine qdv ?_
    refine qdl ax.out ?_;refine qdk J (fun _ i J=>ay.out _ J.below) ?_;refine qdv ?_;refine dnd J ?_;clear J;intro aO J;simp only[zr,sTa,sTb];go_wp2;go_roundw
    case rel=>exact⟨k+1,by omega,by go_num,J⟩
    case measure=>simp[intOf];omega
   ·obtain rfl:k=d.fields.length:=by omega
    clear I;go_wp2_with (with_reducible refine lld J ?_);refine rt1 ?_;exact⟨rfl,J.below⟩
end Go.Proofs.YtplcndmdkabmeaaGreatDoor
