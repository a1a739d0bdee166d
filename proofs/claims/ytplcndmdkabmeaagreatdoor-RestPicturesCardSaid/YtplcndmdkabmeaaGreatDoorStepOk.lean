/- What is joined of right pictures is right. Plain. Conditions: those of each law. | What a step makes of a right picture is right. Plain. Conditions: a right program. -/
import Derived.Test.YtplcndmdkabmeaaGreatDoorPil
import Derived.Test.YtplcndmdkabmeaaGreatDoorStpb
import Derived.Test.YtplcndmdkabmeaaGreatDoorPicc
import Derived.Test.YtplcndmdkabmeaaGreatDoorSpn
set_option linter.unusedSimpArgs false
set_option linter.unusedVariables false
set_option maxRecDepth 100000
namespace Go.Proofs.YtplcndmdkabmeaaGreatDoor
open Go.Proofs.Tryz
open Go.RowKit
theorem J2 {q:Nat->Bool}{n:Nat}(h:¬ qa q n=true) (k:Nat) (hk:k<n):q k=false:=by
 cases g:q k with
 | false=>rfl
 | true=>exact absurd (qg hk g) h
structure Puts (f:zm->zm->zm):Prop where
 ok:∀ s t,zh s=0->zh t=0->zh (f s t)=0
 no:f zA zA=zA
 inl:∀ s t a,zh s=0->zh t=0->jE s a=true->jE (f s t) a=true
 inr:∀ s t a,zh s=0->zh t=0->jE t a=true->jE (f s t) a=true
theorem qo (s:zm) (a:Int):jE s a=true↔s.none=false∧s.lo<=a∧a<=s.hi:=by
 simp[jE,Bool.and_eq_true]
theorem Qi:Puts both:=by
 refine⟨fun s o p t=>GO p t,rfl,fun s o a _ _ h=>?_,fun s o a _ _ h=>?_⟩
 ·obtain⟨g,i,j⟩:=(qo s a).1 h
  unfold both;rw[if_neg (by simp[g])];split
  ·exact h
  ·rw[qo];exact⟨rfl,Int.le_trans (Int.min_le_left _ _) i,Int.le_trans j (Int.le_max_left _ _)⟩
 ·obtain⟨g,i,j⟩:=(qo o a).1 h
  unfold both;split
  ·exact h
  ·rw[if_neg (by simp[g]),qo];exact⟨rfl,Int.le_trans (Int.min_le_right _ _) i,Int.le_trans j (Int.le_max_right _ _)⟩
theorem Y2:Puts jf:=by
 refine⟨fun s g i j=>(zfK i j).1,rfl,fun s g a i j h=>?_,fun s g a i j h=>?_⟩
 ·unfold jf
  split
  ·exact Qi.inl s g a i j h
  ·obtain⟨I,P,R⟩:=(qo s a).1 h
   have e:=(zu i).1;obtain⟨o,p,t,C⟩:=e;rw[qo];refine⟨rfl,?_,?_⟩
   ·show (if g.lo<s.lo then (-2147483648:Int) else min s.lo g.lo)<=a
    split
    ·omega
    ·omega
   ·show a<=(if s.hi<g.hi then (2147483647:Int) else max s.hi g.hi)
    split
    ·omega
    ·omega
 ·unfold jf
  split
  ·exact Qi.inr s g a i j h
  ·obtain⟨I,P,R⟩:=(qo g a).1 h
   have e:=(zu j).1;obtain⟨o,p,t,C⟩:=e;rw[qo];refine⟨rfl,?_,?_⟩
   ·show (if g.lo<s.lo then (-2147483648:Int) else min s.lo g.lo)<=a
    split
    ·omega
    ·omega
   ·show a<=(if s.hi<g.hi then (2147483647:Int) else max s.hi g.hi)
    split
    ·omega
    ·omega
theorem Xg {p:Pg}{is:Nat->Ins}{l:List Int}:jz p is l=false↔∀ x∈l,qh p is x=true:=by
 unfold jz;constructor
 ·intro h x i
  obtain⟨k,g,rfl⟩:=List.mem_iff_getElem.1 i;have:=J2 (q:=fun k=>!qh p is (l.getD k 0)) (by rw[h];decide) k g;simpa [List.getD_eq_getElem?_getD,List.getElem?_eq_getElem g] using this
 ·intro h
  refine qu fun k g=>?_
  rw[h _ (qX g)];rfl
theorem G7 {l:List Int}(h:Zr l):JA l=false:=by
 unfold JA;refine qu fun k o=>?_
 have g:k<l.length:=by omega
 have i:k+1<l.length:=by omega
 have j:=List.pairwise_iff_getElem.1 h k (k+1) g i (by omega);simp only[List.getD_eq_getElem?_getD,List.getElem?_eq_getElem g,List.getElem?_eq_getElem i,Option.getD_some,decide_eq_false_iff_not];omega
theorem QQ {p:Pg}{is:Nat->Ins}{d:Res}(h:q9 p is d=0):zh d.span=0∧jz p is d.l=false∧JA d.l=false:=by
 unfold q9 Qb at h;dsimp only[Res.gu]at h;split at h
 ·rename_i g;exact absurd h g
 rename_i g;split at h
 ·cases h
 rename_i i;split at h
 ·cases h
 rename_i j;exact⟨by omega,by simpa using i,by simpa using j⟩
theorem zeE {p:Pg}{is:Nat->Ins}{d:Res}(i:zh d.span=0) (g:jz p is d.l=false) (h3:JA d.l=false):q9 p is d=0:=by
 unfold q9 Qb;dsimp only[Res.gu];rw[if_neg (by omega),if_neg (by rw[g];decide),if_neg (by rw[h3];decide)]
theorem ZV {p:Pg}{is:Nat->Ins}{f:zm->zm->zm}(hf:Puts f) {d e:Res}(t:q9 p is d=0) (C:q9 p is e=0):q9 p is (qx f d e)=0:=by
 obtain⟨g,i,_⟩:=QQ t;obtain⟨j,o,_⟩:=QQ C;refine zeE (hf.ok _ _ g j) ?_ (G7 (Qn _ _).1);rw[Xg]at *;intro x I;rcases ((Qn d.l e.l).2 x).1 I with h|h
 ·exact i x h
 ·exact o x h
structure Rp (p:Pg) (is:Nat->Ins) (d:Pd):Prop where
 vars:(d.vars.length:Int)=p.vars
 fields:d.fields.length=p.n
 rows:∀ k,k<d.fields.length->((d.row k).length:Int)=p.fields
 vg:∀ k,k<d.vars.length->q9 p is (d.var k)=0
 fg:∀ k j,k<d.fields.length->j<(d.row k).length->q9 p is (d.field k j)=0
 stray:∀ k j,k<d.fields.length->qh p is k=false->j<(d.row k).length->qD (d.field k j)=true
theorem zbt {g:Type}{f:g->Int}{l:List g}(h:∀ x∈l,f x=0):qr (l.map f)=0:=by
 induction l with
 | nil=>rfl
 | cons a l ih=>
  have i:=h a List.mem_cons_self;simp only[List.map_cons,qr,i,if_true];exact ih fun x j=>h x (List.mem_cons_of_mem _ j)
theorem Rp.of {p:Pg}{is:Nat->Ins}{d:Pd}(h:zE p is d=0) (hn:d.none=false):Rp p is d:=by
 obtain⟨aj,vs,g⟩:=d;dsimp only at hn;subst hn;rw[Qg]at h;split at h
 ·cases h
 rename_i ab;split at h
 ·rename_i P;exact absurd h P
 rename_i P;split at h
 ·cases h
 rename_i U;have R:Jt p is (vs::g)=0:=by omega
 rw[Q4]at R;have T:=YX R;have o:Q5 p ⟨false,vs,g⟩=false:=by simpa using ab
 unfold Q5 at o;simp only[Bool.or_eq_false_iff,bne_eq_false_iff_eq]at o;obtain⟨⟨ad,ak⟩,ae⟩:=o;have af:∀ k,k<g.length->((g.getD k []).length:Int)=p.fields:=fun k hk=>by
  have:=J2 (q:=fun i=>((Pd.row ⟨false,vs,g⟩ i).length:Int) != p.fields) (by rw[ae];decide) k hk;simpa using this
 refine⟨ad,by dsimp only;omega,af,fun k hk=>T _ ?_,fun k j hk t=>T _ ?_,fun k j hk ag t=>?_⟩
 ·exact List.mem_flatten.2 ⟨vs,List.mem_cons_self,qX hk⟩
 ·exact List.mem_flatten.2 ⟨g.getD k [],List.mem_cons_of_mem _ (qX hk),qX t⟩
 ·unfold Zb at U
  have C:=J2 U k hk;rw[ag]at C;have I:QF (g.getD k [])=false:=by simpa using C
  unfold QF at I;have ac:=J2 (q:=fun ai=>!qD ((g.getD k []).getD ai zo)) (by rw[I];decide) j t;simpa using ac
theorem Rp.right {p:Pg}{is:Nat->Ins}{d:Pd}(h:Rp p is d) (hn:d.none=false):zE p is d=0:=by
 obtain⟨ab,I,g⟩:=d;dsimp only at hn;subst hn;rw[Qg];have P:Q5 p ⟨false,I,g⟩=false:=by
  unfold Q5;simp only[Bool.or_eq_false_iff,bne_eq_false_iff_eq];refine⟨⟨h.vars,by have ad:g.length=p.n:=h.fields;show (g.length:Int)=p.n;omega⟩,qu fun k j=>?_⟩;have:=h.rows k j;simpa using this
 have ac:Jt p is (I::g)=0:=by
  rw[Q4];refine zbt fun x U=>?_
  obtain⟨l,t,aa⟩:=List.mem_flatten.1 U;obtain⟨o,i,rfl⟩:=List.mem_iff_getElem.1 aa;rcases List.mem_cons.1 t with rfl|t
  ·have:=h.vg o i
   simpa [List.getD_eq_getElem?_getD,List.getElem?_eq_getElem i] using this
  ·obtain⟨k,j,rfl⟩:=List.mem_iff_getElem.1 t
   have e:g.getD k []=g[k]:=by simp[List.getD_eq_getElem?_getD,List.getElem?_eq_getElem j]
   have C:q9 p is ((g.getD k []).getD o zo)=0:=h.fg k o j (show o<(g.getD k []).length by rw[e];exact i);rw[e]at C;simpa [List.getD_eq_getElem?_getD,List.getElem?_eq_getElem i] using C
 have R:Zb p is g=false:=by
  unfold Zb;refine qu fun k j=>?_
  cases T:qh p is k with
  | true=>rfl
  | false=>
   have:QF (g.getD k [])=false:=by
    unfold QF;refine qu fun o i=>?_
    rw[h.stray k o j T i];rfl
   rw[this];rfl
 rw[if_neg (by rw[P];decide),if_neg (by omega),if_neg (by rw[R];decide)]
theorem Rp.pd {p:Pg}{is:Nat->Ins}{d:Pd}(h:Rp p is d) (hn:d.none=false) (g:zf p is=0):zS p d:=zS.of (h.right hn) g hn
theorem Um (f:zm->zm->zm) (ds es:List Res) (k n:Nat) (hk:k<n):(j4 f ds es n).getD k zo=qx f (ds.getD k zo) (es.getD k zo):=zV _ _ _ _ hk
theorem ZW (f:zm->zm->zm) (d e:Pd) (k n:Nat) (hk:k<n):(qB f d e n).getD k []=qz f (d.row k) (e.row k):=zV _ _ _ _ hk
theorem zbu {f:zm->zm->zm}(hf:Puts f) {p:Pg}{is:Nat->Ins}{d e:Res}(ab:q9 p is d=0) (ac:q9 p is e=0) (g:qD d=true) (j:qD e=true):qD (qx f d e)=true:=by
 obtain⟨ag,⟨ah,af,ae⟩,ai,ad,dl⟩:=d;obtain⟨an,⟨ao,al,ak⟩,aq,aj,el⟩:=e;have a:=(zu (QQ ab).1).2.2;have b:=(zu (QQ ac).1).2.2;simp only[qD,Bool.and_eq_true,Bool.not_eq_true',beq_iff_eq]at g j;obtain⟨⟨⟨⟨I,i⟩,P⟩,R⟩,ar⟩:=g;obtain⟨⟨⟨⟨T,o⟩,U⟩,aa⟩,au⟩:=j;obtain rfl:dl=[]:=List.eq_nil_of_length_eq_zero (by omega);obtain rfl:el=[]:=List.eq_nil_of_length_eq_zero (by omega);obtain⟨rfl,rfl⟩:=a i;obtain⟨rfl,rfl⟩:=b o;subst I i P R T o U aa;have t:yQ ([]:List Int) []=[]:=za3 List.Pairwise.nil;have C:=hf.no;simp only[qD,qx,t];rw[show (⟨true,0,0⟩:zm)=zA from rfl,C];rfl
theorem Rp.both {p:Pg}{is:Nat->Ins}{f:zm->zm->zm}(hf:Puts f) {d e:Pd}(o:Rp p is d) (t:Rp p is e):Rp p is (zW f d e):=by
 have I:d.fields.length=e.fields.length:=by rw[o.fields,t.fields]
 have aa:∀ k,k<d.fields.length->(d.row k).length=(e.row k).length:=fun k g=>by
  have ag:=o.rows k g;have ah:=t.rows k (by rw[<- I];exact g);omega
 have af:d.vars.length=e.vars.length:=by have:=o.vars;have:=t.vars;omega
 have C:(zW f d e).fields.length=d.fields.length:=by simp[zW,qB]
 have ad : (zW f d e).vars.length=d.vars.length:=YT _ _ _ _;have ab:∀ k,k<d.fields.length->(zW f d e).row k=qz f (d.row k) (e.row k):=fun k g=>ZW f d e k _ g
 have R:∀ k i,k<d.fields.length->i<(d.row k).length->(zW f d e).field k i=qx f (d.field k i) (e.field k i):=fun k i g j=>by
  show ((zW f d e).row k).getD i zo=_
  rw[ab k g,Um f _ _ i _ j]
 have P:∀ k,k<d.fields.length->((zW f d e).row k).length=(d.row k).length:=fun k g=>by rw[ab k g,YT]
 refine⟨by rw[ad];exact o.vars,by rw[C];exact o.fields,fun k g=>?_,fun k g=>?_,fun k i g j=>?_,fun k i g ac j=>?_⟩
 ·rw[C]at g
  rw[P k g];exact o.rows k g
 ·rw[ad]at g
  have ae:(zW f d e).var k=qx f (d.var k) (e.var k):=Um f _ _ k _ g;rw[ae];exact ZV hf (o.vg k g) (t.vg k (by rw[<- af];exact g))
 ·rw[C]at g
  rw[P k g]at j;rw[R k i g j];exact ZV hf (o.fg k i g j) (t.fg k i (by rw[<- I];exact g) (by rw[<- aa k g];exact j))
 ·rw[C]at g
  rw[P k g]at j;rw[R k i g j];have T : i<(e.row k).length:=by rw[<- aa k g];exact j
  have U : k<e.fields.length:=by rw[<- I];exact g
  exact zbu hf (o.fg k i g j) (t.fg k i U T) (o.stray k i g ac j) (t.stray k i U ac T)
theorem Zl {p:Pg}{is:Nat->Ins}{f:zm->zm->zm}(hf:Puts f) {d e:Pd}(t:zf p is=0) (i:zE p is d=0) (o:zE p is e=0):zE p is (jM f d e)=0:=by
 unfold jM;cases j:d.none with
 | true=>
  rw[if_pos rfl];cases g:e.none with
  | true=>rfl
  | false=>
   rw[if_neg (by decide),yn (zS.of o t g) g];exact o
 | false=>
  rw[if_neg (by decide)];cases g:e.none with
  | true=>
   rw[if_pos rfl,yn (zS.of i t j) j];exact i
  | false=>
   rw[if_neg (by decide)];exact((Rp.of i j).both hf (Rp.of o g)).right rfl
set_option maxHeartbeats 1000000
section
variable {p : Pg} {is : Nat -> Ins}
theorem Yd {lo hi:Int}(j:-2147483648<=lo) (o:lo<=hi) (h3:hi<=2147483647):zh ⟨false,lo,hi⟩=0:=by
 unfold zh jd;have g:(decide (-2147483648<=lo)&&decide (lo<=2147483647))=true:=by simp;omega
 have i:(decide (-2147483648<=hi)&&decide (hi<=2147483647))=true:=by simp;omega
 simp[g,i];omega
theorem OkD.join {f:zm->zm->zm}(hf:Puts f) {d e:Res}(h:OkD p is d) (g : OkD p is e):OkD p is (qx f d e):=OkD.of (ZV hf h.right g.right)
theorem OkD.noth:OkD p is Kk:=⟨rfl,(fun x g=>by cases g),List.Pairwise.nil⟩
theorem OkD.zero:OkD p is zo:=⟨rfl,(fun x g=>by cases g),List.Pairwise.nil⟩
theorem OkD.plain {d:Res}(j:zh d.span=0) (g:d.l=[]):OkD p is d:=⟨j,(fun x i=>by rw[g]at i;cases i),by rw[g];exact List.Pairwise.nil⟩
theorem q2.var {d:Pd}(h:q2 p is d) (k:Nat):OkD p is (d.var k):=by
 rcases Nat.lt_or_ge k d.vars.length with g|g
 ·exact h.vg _ (qX g)
 ·show OkD p is (d.vars.getD k zo)
  rw[List.getD_eq_getElem?_getD,List.getElem?_eq_none g];exact OkD.zero
theorem q2.field {d:Pd}(h:q2 p is d) (m n:Nat):OkD p is (d.field m n):=by
 rcases Nat.lt_or_ge m d.fields.length with g|g
 ·rcases Nat.lt_or_ge n (d.row m).length with i|i
  ·exact h.fg m (by rw[<- h.fields];exact g) _ (qX (l:=d.row m) i)
  ·show OkD p is ((d.row m).getD n zo)
   rw[List.getD_eq_getElem?_getD,List.getElem?_eq_none i];exact OkD.zero
 ·show OkD p is ((d.fields.getD m []).getD n zo)
  rw[List.getD_eq_getElem?_getD (l:=d.fields),List.getElem?_eq_none g];exact OkD.zero
theorem zdl {g:Type}{l:List g}{k:Nat}{v x:g}(h:x∈l.set k v):x=v∨x∈l:=by
 rcases List.mem_or_eq_of_mem_set h with h|h
 ·exact .inr h
 ·exact .inl h
theorem q2.setVar {d:Pd}(h:q2 p is d) (k:Nat) {g:Res}(j:OkD p is g):q2 p is (d.setVar k g):=
 ⟨h.none,by show ((d.vars.set k g).length:Int)=_;rw[List.length_set];exact h.vars,h.fields,h.rows,fun x i=>by
  rcases zdl i with rfl|i
  ·exact j
  ·exact h.vg x i,h.fg,h.stray⟩
theorem q2.setRow {d:Pd}(h:q2 p is d) {m:Nat}(R:m<p.n) {l:List Res}(P:l.length=(d.row m).length) (I:∀ i∈l,OkD p is i) (U:qh p is m=true):q2 p is (d.setRow m l):=by
 have T:m<d.fields.length:=by rw[h.fields];exact R
 have t:∀ k,(d.setRow m l).row k=if k=m then l else d.row k:=fun k=>qs _ _ _ _ _ T
 refine⟨h.none,h.vars,by show (d.fields.set m l).length=_;rw[List.length_set];exact h.fields,fun k j=>?_,h.vg,fun k j i g=>?_,fun k j C i g=>?_⟩
 ·rw[t]
  split
  ·rename_i o;rw[P,<- o];exact h.rows k j
  ·exact h.rows k j
 ·rw[t]at g
  split at g
  ·exact I i g
  ·exact h.fg k j i g
 ·rw[t]at g
  split at g
  ·rename_i o;rw[o,U]at C;cases C
  ·exact h.stray k j C i g
theorem q2.setField {d:Pd}(h:q2 p is d) {m:Nat}(j:m<p.n) (n:Nat) {g:Res}(o:OkD p is g) (t:qh p is m=true):q2 p is (d.setField m n g):=by
 refine h.setRow j (l:=(d.row m).set n g) (by rw[List.length_set]) (fun x i=>?_) t;rcases zdl i with rfl|i
 ·exact o
 ·exact h.fg m j x i
theorem OkD.truly {d:Res}(h:OkD p is d):OkD p is (jV d):=by
 refine⟨?_,h.sites,h.asc⟩;obtain⟨U,o,aa⟩:=zu h.span;obtain⟨h4,ab,ac,C⟩:=U;show zh (ji d.span)=0
 obtain⟨n,⟨af,lo,hi⟩,t,f,l⟩:=d;dsimp only at o aa h4 ab ac C ⊢;have I:=h.span;dsimp only at I;unfold ji;split
 ·rfl
 ·rename_i P
  split
  ·rename_i g
   simp only[Bool.and_eq_true,Bool.not_eq_true',beq_iff_eq]at P g;obtain⟨i,j⟩:=g;subst i j;have T:hi≠0:=fun e=>P ⟨⟨rfl,rfl⟩,e⟩
   have ad:(0:Int)<=hi:=o;have ae:hi<=2147483647:=C;exact Yd (lo:=1) (hi:=hi) (by omega) (by omega) (by omega)
  ·rename_i g
   split
   ·rename_i R
    simp only[Bool.and_eq_true,Bool.not_eq_true',beq_iff_eq]at g R;obtain⟨i,j⟩:=R;subst i j;have T:lo≠0:=fun e=>g ⟨rfl,e⟩
    have ad:lo<=(0:Int):=o;have ae:-2147483648<=lo:=h4;exact Yd (lo:=lo) (hi:=-1) (by omega) (by omega) (by omega)
   ·exact I
theorem OkD.falsely {d:Res}(h:OkD p is d):OkD p is (yc d):=by
 refine OkD.plain ?_ rfl;show zh (q4 d.span ⟨false,0,0⟩)=0
 unfold q4;split
 ·rfl
 ·rename_i q
  simp only[Bool.or_eq_true,decide_eq_true_eq,not_or]at q;have j:=h.span;obtain⟨n,⟨t,o,i⟩,C,f,l⟩:=d;dsimp only at q j ⊢;have g:max o 0=0∧min i 0=0:=by omega
  rw[g.1,g.2];rfl
theorem OkD.get {d:Pd}(h:q2 p is d) (n:Nat):∀ (l:List Int) (g:Res),OkD p is g->OkD p is (l.foldl (fun g s=>qx both g (d.field s.toNat n)) g)
 | [],_,hg=>hg
 | s::l,_,hg=>OkD.get h n l _ (hg.join Qi (h.field _ _))
theorem q2.put (n:Nat) {b:Res}(hb:OkD p is b):∀ (l:List Int) (d:Pd),q2 p is d->(∀ x∈l,qh p is x=true)->q2 p is (yM d n b l)
 | [],_,h,_=>h
 | s::l,d,h,hl=>by
  have g:=hl s List.mem_cons_self;obtain⟨m,i,o,_⟩:=VU g;refine q2.put n hb l _ (h.setField (m:=s.toNat) (by omega) n ((h.field _ _).join Qi hb) ?_) (fun x j=>hl x (List.mem_cons_of_mem _ j));rw[i];rw[i]at g;exact g
theorem zhj {k:Int}{s t:zm}(C:zh s=0) (ht:zh t=0):zh (made k s t)=0:=by
 cases g:s.none with
 | true=>unfold made;rw[g];rfl
 | false=>
  cases i:t.none with
  | true=>unfold made;rw[i,Bool.or_true];rfl
  | false=>
   have j:=(zu C).2.1;have o:=(zu ht).2.1;exact(zcn g i (Int.le_refl _) j (Int.le_refl _) o).1
theorem zge {k:Int}{d e:Res}{s t:Sl}(g:OkD p is d) (i:OkD p is e):OkD p is (qL k (d.gu s) (e.gu t) d.l e.l).1:=by
 unfold qL;split
 ·exact OkD.noth
 split
 ·show OkD p is ⟨d.null,both d.span zA,d.tr,d.fa,yQ d.l []⟩
  rw[XO g.span,U7 g.asc];exact⟨g.span,g.sites,g.asc⟩
 split
 ·exact OkD.plain rfl rfl
 split
 ·exact OkD.plain rfl rfl
 ·refine OkD.plain ?_ rfl
  show zh (Yg k (d.gu s) (e.gu t)).span=0
  unfold Yg;split
  ·rfl
  split
  ·rfl
  ·exact zhj g.span i.span
end
theorem zbv {p:Pg}{is:Nat->Ins}{d:Pd}{i:Nat}(ag:zf p is=0) (h:q2 p is d) (hi:i<p.n):∀ e∈(zJ (is i) i d).es,(0<=e.1∧e.1<=p.n)∧q2 p is e.2:=by
 have P:=qG ((zp ag).2 i hi);have T:∀ (k:Nat) (j:Res),OkD p is j->∀ e∈jK d i k j,(0<=e.1∧e.1<=p.n)∧q2 p is e.2:=by
  intro k j C e g;unfold jK at g;split at g
  ·cases g
  ·rw[List.mem_singleton.1 g]
   exact⟨by dsimp only;omega,h.setVar k C⟩
 have U:∀ (b:Bool) (go:Int) (k:Nat) (j:Res),(0<=go∧go<=p.n)->OkD p is j->∀ e∈(if b=true then [(go,d.setVar k j)] else []),(0<=e.1∧e.1<=p.n)∧q2 p is e.2:=by
  intro b go k j af C e g;split at g
  ·rw[List.mem_singleton.1 g]
   exact⟨af,h.setVar k C⟩
  ·cases g
 have I:(0:Int)<=(i:Int)+1∧(i:Int)+1<=p.n:=by omega
 intro e g;unfold zJ at g;split at g
 ·rename_i t
  refine T _ _ (OkD.plain ?_ ?_) e g
  ·unfold qZ
   split
   ·rename_i o
    have R:=P.n1 o;exact Yd R.1 (Int.le_refl _) R.2
   split
   ·rename_i o
    have R:=P.n14 o;exact Yd (by omega) (by omega) (by omega)
   split
   ·rfl
   split
   ·rfl
   ·rfl
  ·unfold qZ
   repeat (first|rfl|split)
 split at g
 ·rename_i t
  rw[List.mem_singleton.1 g];have aa:qh p is i=true:=by simp[qh,hi,t]
  have ah:OkD p is (Yf i):=⟨rfl,(fun x ai=>by rw[List.mem_singleton.1 ai];exact aa),List.pairwise_singleton _ _⟩;have ad:∀ j∈(d.row i).map (fun j:Res=>{ j with null:=true }),OkD p is j:=fun j C=>by
   obtain⟨ab,ac,rfl⟩:=List.mem_map.1 C;have o:=h.fg i hi ab ac;exact⟨o.span,o.sites,o.asc⟩
  have ae:q2 p is ((d.setVar (is i).to.toNat (Yf i)).setRow i ((d.row i).map fun j=>{ j with null:=true })):=(h.setVar _ ah).setRow hi (by rw[List.length_map];rfl) ad aa;exact⟨I,ae⟩
 split at g
 ·exact T _ _ (OkD.get h (is i).n.toNat (d.var (is i).a.toNat).l Kk OkD.noth) e g
 split at g
 ·dsimp only at g
  split at g
  ·cases g
  ·rw[List.mem_singleton.1 g]
   exact⟨I,q2.put _ (h.var _) _ _ h (h.var _).sites⟩
 split at g
 ·rename_i t
  rcases List.mem_append.1 g with g|g
  ·exact U _ _ _ _ (P.go (by rw[t];decide)) (h.var _).truly e g
  ·exact U _ _ _ _ I (h.var _).falsely e g
 split at g
 ·exact U _ _ _ _ I (h.var _).truly e g
 split at g
 ·rename_i t
  rw[List.mem_singleton.1 g];exact⟨P.go (by rw[t];decide),h⟩
 split at g
 ·rw[List.mem_singleton.1 g]
  exact⟨I,h⟩
 split at g
 ·cases g
 ·exact T _ _ (zge (h.var _) (h.var _)) e g
end Go.Proofs.YtplcndmdkabmeaaGreatDoor
