/- A picture whose variables' words are fixed, as a fact on memory; the reference's JoinPicture: what was there, or a new one. Conditions: right pictures. -/
import Derived.Test.YtplcndmdkabmeaaGreatDoorSolG
import Derived.Test.YtplcndmdkabmeaaGreatDoorFoot
import Derived.Test.YtplcndmdkabmeaaGreatDoorRefSolA
import Derived.Test.YtplcndmdkabmeaaGreatDoorPil
set_option linter.unusedSimpArgs false
set_option linter.unusedVariables false
set_option maxRecDepth 100000
set_option maxHeartbeats 1600000
namespace Go.Proofs.YtplcndmdkabmeaaGreatDoor
open Go.Proofs.Tryz
open Go.RowKit
theorem qR.onG {w:World}{X:Nat->Prop}{s:Sl}{ds:List Res}(h:On w X (fun w=>qR w s ds)):∃ U:List Gu,∀ w',(∀ b,X b->w'.heap[b]? = w.heap[b]?)->zN w' U ds∧zZ w' 7 s.p s.n (fun k=>Gu.cells (U.getD k zI)):=by
 have ab:∀ b,¬ X b->qR (QA w b) s ds:=fun b I=>h _ (fun c ai=>yY (fun e=>I (by rw[<- e];exact ai)))
 obtain⟨P,ao,i,aa,ag⟩:=h w (fun _ _=>rfl);have C:∀ b o,0<s.n->s.p=some ⟨b,o,none⟩->X b:=fun b o ad T=>by
  apply Classical.byContradiction;intro I;obtain⟨_,_,t,R,_⟩:=ab b I;exact R.erased ad T (fun e=>by cases e)
 refine⟨(List.range s.n).map fun k=>(ds.getD k zo).gu (i k),fun w' ae=>?_⟩;have ak:=aa.on (w':=w') (fun _ _ e=>by cases e) C (fun b C _=>ae b C);have aj:∀ k,k<s.n->zk w' (i k) (ds.getD k zo).l:=fun k g=>(ag k g).on (fun b o ad T=>by
  apply Classical.byContradiction;intro I;obtain⟨_,_,t,R,ah⟩:=ab b I;have al:∀ o,s.p≠some ⟨b,o,none⟩:=fun o e=>I (C b o (by omega) e)
  have e:(Value.slice (i k).p (i k).n (i k).cap)=.slice (t k).p (t k).n (t k).cap:=aa.same R al g (j:=6) rfl rfl;obtain⟨af,an,_⟩:(i k).p=(t k).p∧(i k).n=(t k).n∧(i k).cap=(t k).cap:=by simpa using e
  exact(ah k g).at'.erased (by omega) (by rw[<- af];exact T) (fun e=>by cases e)) (fun b C _=>ae b C)
 have ac:∀ k,k<s.n->((List.range s.n).map fun k=>(ds.getD k zo).gu (i k)).getD k zI=(ds.getD k zo).gu (i k):=fun k g=>zV _ _ _ _ g
 refine⟨⟨by simp[P],fun k g=>?_⟩,ak.congr fun k g=>by rw[ac k g]⟩;rw[ac k (by rw[P];exact g)];exact ql.mk' (aj k (by rw[P];exact g))
def YW (w:World) (x:Pv) (d:Pd) (gx:List Gu):Prop:=zq w x d∧JQ w x d gx
theorem Loc.gx {w0 w:World}{L:List zg}{D:List zl}{x:Pv}{d:Pd}(h:Loc w0 w L ((fun w=>zq w x d)::D)):∃ gx,Loc w0 w L ((fun w=>YW w x d gx)::D):=by
 obtain⟨X,t,o⟩:=h.data _ List.mem_cons_self;obtain⟨gx,p⟩:=qR.onG (X:=X) (s:=x.vars) (ds:=d.vars) (fun i g=>(o i g).vars);refine⟨gx,h.below,h.nodup,h.ids,h.cells,fun S j=>?_⟩;rcases List.mem_cons.1 j with rfl|j
 ·exact⟨X,t,fun i g=>⟨o i g,(p i g).1,(p i g).2⟩⟩
 ·exact h.data S (List.mem_cons_of_mem _ j)
theorem Loc.derive {w0 w:World}{L:List zg}{D:List zl}{S U:zl}(h:Loc w0 w L D) (o:S∈D) (t:∀ w,S w->U w):Loc w0 w L (U::D):=by
 refine⟨h.below,h.nodup,h.ids,h.cells,fun V g=>?_⟩;rcases List.mem_cons.1 g with rfl|g
 ·obtain⟨X,p,j⟩:=h.data S o
  exact⟨X,p,fun i C=>t i (j i C)⟩
 ·exact h.data V g
def ye (xs:List Pv) (g:List (List Gu)) (l:List Pd):zl:=fun w=>∀ k,k<l.length->YW w (xs.getD k qJ) (l.getD k zC) (g.getD k [])
theorem ye.set {xs:List Pv}{i:List (List Gu)}{l:List Pd}{w:World}(h:ye xs i l w) (C:xs.length=l.length) (p:i.length=l.length) {t:Nat}{r:Pv}{d:Pd}{gx:List Gu}(o:YW w r d gx):ye (xs.set t r) (i.set t gx) (l.set t d) w:=by
 intro k j;rw[List.length_set]at j;by_cases g:k=t
 ·subst g
  rw[qs _ _ _ _ _ (by omega),if_pos rfl,qs _ _ _ _ _ (by omega),if_pos rfl,qs _ _ _ _ _ (by omega),if_pos rfl];exact o
 ·by_cases I:t<l.length
  ·rw[qs _ _ _ _ _ (by omega),if_neg g,qs _ _ _ _ _ (by omega),if_neg g,qs _ _ _ _ _ (by omega),if_neg g]
   exact h k j
  ·rw[List.set_eq_of_length_le (by omega),List.set_eq_of_length_le (by omega),List.set_eq_of_length_le (by omega)]
   exact h k j
theorem YW.none (w:World):YW w j5 zC []:=
 ⟨zq.none w,zN.nil w,yo rfl,0,0,fun h=>absurd h (Nat.lt_irrefl 0),fun k g=>absurd g (Nat.not_lt_zero k)⟩
theorem ye.snoc {xs:List Pv}{i:List (List Gu)}{l:List Pd}{w:World}(h:ye xs i l w) (p:xs.length=l.length) (j:i.length=l.length) {r:Pv}{d:Pd}{gx:List Gu}(C:YW w r d gx):ye (xs++[r]) (i++[gx]) (l++[d]) w:=by
 intro k o;rw[List.length_append]at o;have e:∀ {t:Type} (m:List t) (a z:t),m.length=l.length->(k<l.length->(m++[a]).getD k z=m.getD k z)∧(¬ k<l.length->(m++[a]).getD k z=a):=fun m a z I=>by
  refine⟨fun h=>?_,fun h=>?_⟩
  ·rw[List.getD_eq_getElem?_getD,List.getD_eq_getElem?_getD,List.getElem?_append_left (by omega)]
  ·have:k=m.length:=by simp at o;omega
   subst this;rw[List.getD_eq_getElem?_getD,List.getElem?_append_right (Nat.le_refl _)];simp
 by_cases g:k<l.length
 ·rw[(e xs r qJ p).1 g,(e i gx [] j).1 g,(e l d zC rfl).1 g];exact h k g
 ·rw[(e xs r qJ p).2 g,(e i gx [] j).2 g,(e l d zC rfl).2 g];exact C
theorem zk.onI {w C:World}{X:Nat->Prop}{s:Sl}{l:List Int}(h:On w X (fun w=>zk w s l)) (ag:∀ c,X c->(∃ P v,w.cell? ⟨c,P,none⟩=some (.int .i64 v))->C.heap[c]? = w.heap[c]?):zk C s l:=by
 have p:=h w (fun _ _=>rfl);obtain⟨b,P,I,t⟩:=p.at'.ex;have ad:0<s.n->X b:=fun g=>by
  apply Classical.byContradiction;intro ah;have ac:=h (QA w b) (fun c t=>yY (fun e=>ah (by rw[<- e];exact t)));exact ac.at'.erased g (I g) (fun e=>by cases e)
 have e1:0<s.n->C.heap[b]? = w.heap[b]? :=fun g=>ag b (ad g) ⟨_,_,(t 0 g).2 0 _ rfl⟩
 refine⟨p.n,p.m,⟨fun aa aj o i T=>?_,b,P,I,fun k af=>?_⟩⟩
 ·have U:=GZ T
  have e:=(I U).symm.trans o;simp only[Option.some.injEq,Addr.mk.injEq]at e;rw[<- p.at'.fz aa aj o i T];have R:=e1 U;rw[e.1]at R;simp only[World.frozen?,R]
 obtain⟨g,ab⟩:=t k af;have e1:=e1 (by omega);have o:∀ j,C.cell? ⟨b,j,none⟩=w.cell? ⟨b,j,none⟩:=fun j=>by simp only[World.cell?,e1]
 refine⟨?_,fun j v ae=>by rw[o];exact ab j v ae⟩;rw[Array.getElem?_eq_getElem g]at e1;exact zz e1
theorem zN.onI {w i:World}{X:Nat->Prop}{gl:List Gu}{ds:List Res}(h:On w X (fun w=>zN w gl ds)) (j:∀ c,X c->(∃ p v,w.cell? ⟨c,p,none⟩=some (.int .i64 v))->i.heap[c]? = w.heap[c]?):zN i gl ds:=
 ⟨(h w (fun _ _=>rfl)).len,fun k g=>⟨((h w (fun _ _=>rfl)).at' k g).e,zk.onI (w:=w) (X:=X) (fun t o=>((h t o).at' k g).l) j⟩⟩
theorem zH.onI {w t:World}{X:Nat->Prop}{o:List Gu}{gf:List (List Gu)}{vs:List Res}{j:List (List Res)}(h:On w X (zH o gf vs j)) (p:∀ c,X c->(∃ I v,w.cell? ⟨c,I,none⟩=some (.int .i64 v))->t.heap[c]? = w.heap[c]?):zH o gf vs j t:=
 ⟨zN.onI (w:=w) (X:=X) (fun i g=>(h i g).1) p,(h w (fun _ _=>rfl)).2.len,fun k C=>zN.onI (w:=w) (X:=X) (fun i g=>(h i g).2.at' k C) p⟩
theorem zB.typ {E size:Nat}{p:Option Addr}{n cap:Nat}{xs:List Value}{R:List zg}(h:zB E size p n cap xs R):∀ e∈R,e.2.1=E:=by
 intro e i;rcases h.2 with⟨_,_,g⟩|⟨o,j,_,g,_⟩
 ·subst g;cases i
 ·subst g;rw[List.mem_singleton.1 i]
theorem jT.typ {j:List Sl}{gf:List (List Gu)}{i:List zg}(h:jT j gf i):∀ e∈i,e.2.1=108:=by
 induction h with
 | nil=>intro e g;cases g
 | cons h hs ih=>intro e g;rcases List.mem_append.1 g with g|g;exact h.typ e g;exact ih e g
theorem yd.aside {w w' : World}{r:Pv}{d:Pd}(g:yd w w' r d) (ah:d.vars.length+d.fields.length<=9223372036854775807) {b:Nat}{C:List Value}(ao:w.heap.size<=b) (hc:w'.heap[b]? = some (.cells C.toArray 54 (0,0))) (hn:∀ (R:Nat) (v:Int),C[R]? ≠some (Value.int .i64 v)):Loc w w' [(b,54,C)] [fun w=>zq w r d]:=by
 obtain⟨ad,ac,au,aa,U,T,ae,I,j⟩:=g;have an:∀ e∈aa++(T++U),e.1≠b:=fun e i P=>by
  have p:=j.cells e i;rw[P,hc]at p;simp only[Option.some.injEq,Obj.cells.injEq]at p;have o:=p.2.1;rcases List.mem_append.1 i with i|i
  ·rw[I.vars.typ e i]at o;exact absurd o (by decide)
  ·rcases List.mem_append.1 i with i|i
   ·rw[I.rows.typ e i]at o;exact absurd o (by decide)
   ·rw[I.heads.typ e i]at o;exact absurd o (by decide)
 have p:Loc w w' ([(b,54,C)]++(aa++(T++U))) [zH ad ac d.vars d.fields]:=by
  refine⟨j.below,?_,?_,?_,fun S ag=>?_⟩
  ·rw[List.singleton_append,List.map_cons,List.nodup_cons]
   refine⟨fun ai=>?_,j.nodup⟩;obtain⟨e,i,P⟩:=List.mem_map.1 ai;exact an e i P
  ·intro e i
   rcases List.mem_append.1 i with i|i
   ·rw[List.mem_singleton.1 i];exact ao
   ·exact j.ids e i
  ·intro e i
   rcases List.mem_append.1 i with i|i
   ·rw[List.mem_singleton.1 i];exact hc
   ·exact j.cells e i
  ·rw[List.mem_singleton.1 ag]
   obtain⟨X,ab,af⟩:=j.data _ List.mem_cons_self;refine⟨fun c=>X c∧c≠b,fun c t=>⟨(ab c t.1).1,fun e i=>?_⟩,fun ar aq=>zH.onI af fun c t ⟨R,v,aj⟩=>aq c ⟨t,fun e=>?_⟩⟩
   ·rcases List.mem_append.1 i with i|i
    ·rw[List.mem_singleton.1 i];exact fun e=>t.2 e.symm
    ·exact(ab c t.1).2 e i
   ·subst e
    exact hn R v (by simpa [World.cell?,hc] using aj)
 refine p.facts fun ar ak al=>I.is (B:=w.heap.size) ⟨j.nodup,fun e i=>⟨j.ids e i,ak e i⟩⟩ al ae ah
structure zcb (evs:List EdV) (s:Sl) (es:List (Int × Pd)) (w:World):Prop where
 d:j8 w evs es
 l:zZ w 4 s.p s.n (fun k=>EdV.cells (evs.getD k Qu))
 n:s.n=es.length
 m:s.n<=maxLen
theorem zgV {e f:EdV}(h:∀ (p:Nat) (v:Value),(EdV.cells e)[p]? = some v->(EdV.cells f)[p]? = some v):e=f:=by
 obtain⟨U,aa,⟨t,C,I⟩,⟨P,R,T⟩⟩:=e;obtain⟨ab,fn,⟨f1,f2,f3⟩,⟨f4,f5,f6⟩⟩:=f;have g:(Value.int .i64 ab)=.int .i64 U:=Option.some.inj (h 0 _ rfl);have i:(Value.bool fn)=.bool aa:=Option.some.inj (h 1 _ rfl);have j:(Value.slice f1 f2 f3)=.slice t C I:=Option.some.inj (h 2 _ rfl);have o:(Value.slice f4 f5 f6)=.slice P R T:=Option.some.inj (h 3 _ rfl);simp only[Value.int.injEq,Value.bool.injEq,Value.slice.injEq,true_and]at g i j o;obtain⟨rfl,rfl,rfl⟩:=j;obtain⟨rfl,rfl,rfl⟩:=o;subst g i;rfl
theorem Loc.edsW {w0 w:World}{L:List zg}{D:List zl}{s:Sl}{es:List (Int × Pd)}(h:Loc w0 w L ((fun w=>jS w s es)::D)):∃ g,Loc w0 w L (zcb g s es::D):=by
 obtain⟨X,ah,t⟩:=h.data _ List.mem_cons_self;obtain⟨aa,av,g,ak,aq⟩:=t w (fun _ _=>rfl);refine⟨g,h.below,h.nodup,h.ids,h.cells,fun S C=>?_⟩;rcases List.mem_cons.1 C with rfl|C
 ·refine⟨X,ah,fun a1 ac=>?_⟩
  obtain⟨-,-,p,j,P⟩:=t a1 ac;have al:∀ k,k<s.n->p.getD k Qu=g.getD k Qu:=fun k hk=>by
   obtain⟨b,o,aw,I⟩:=aq.ex;obtain⟨ad,a0,ax,aj⟩:=P.ex;have R:=aw (by omega);have T:=ax (by omega);rw[R]at T;obtain⟨rfl,rfl⟩:b=ad∧o=a0:=by simpa using T
   have ai:X b:=by
    apply Classical.byContradiction;intro ay;obtain⟨-,-,a2,-,ar⟩:=t (QA w b) (fun c I=>yY (fun e=>ay (by rw[<- e];exact I)));exact ar.erased (by omega) R (fun e=>by cases e)
   have ae:=ac b ai;refine zgV fun i v U=>?_
   have af:=(aj k hk).2 i v U;have ao:i<4:=(List.getElem?_eq_some_iff.1 U).1;obtain⟨u,ab⟩:∃ u,(EdV.cells (g.getD k Qu))[i]? = some u:=⟨_,List.getElem?_eq_getElem (show i<(EdV.cells (g.getD k Qu)).length from ao)⟩;have ag:=(I k hk).2 i u ab;rw[ab,<- af,<- ag];simp only[World.cell?,ae]
  have au:p.length=g.length:=by rw[j.len,ak.len]
  have an:p=g:=Ku Qu au fun k hk=>al k (by rw[aa,<- j.len];exact hk)
  rw[an]at j P;exact⟨j,P,aa,av⟩
 ·exact h.data S (List.mem_cons_of_mem _ C)
theorem YW.grow {w w' : World}{x:Pv}{d:Pd}{gx:List Gu}(h:YW w x d gx) (hb:Below w.heap.size w w'):YW w' x d gx:=⟨h.1.grow hb,h.2.d.grow hb,h.2.l.grow hb⟩
theorem zcc (nv nf i:Nat) (r:Pv) (g:List Gu) (w:World) (h:YW w r (qM nv nf i) g):ye (r::List.replicate i j5) (g::List.replicate i []) (qd nv nf i) w:=by
 intro k o;cases k with
 | zero=>exact h
 | succ k=>
  have j:k<i:=by simpa [qd] using o
  rw[Ub,List.getD_cons_succ,List.getD_cons_succ,List.getD_eq_getElem?_getD,List.getD_eq_getElem?_getD,List.getElem?_replicate,List.getElem?_replicate,if_pos j,if_pos j];exact YW.none w
def Yv (i:World) (x y:Pv) (d e g:Pd):Value->World->Prop:=fun v w=>∃ r:Pv,v=.agg #[.bool r.none,.slice r.vars.p r.vars.n r.vars.cap,.slice r.fields.p r.fields.n r.fields.cap]∧((r=y∧g=e)∨(r=x∧g=d)∨yd i w r g)
theorem Yv.stable {p:World}{x y:Pv}{d e j:Pd}:qC (Yv p x y d e j):=by
 rintro v w t o ⟨r,i,g|g|g⟩
 ·exact⟨r,i,.inl g⟩
 ·exact⟨r,i,.inr (.inl g)⟩
 ·exact⟨r,i,.inr (.inr (g.grow o))⟩
theorem Loc.join {w0 g w:World}{L:List zg}{D:List zl}(h:Loc w0 g L D) (hb:Below g.heap.size g w) {b:Nat}(t:g.heap.size<=b) (p:w.heap[b]? = some (.cells Qd.toArray 54 (0,0)))
  {S T:zl} (R:S∈D) (hT:T∈D) {r x y:Pv} {d e i:Pd} (I:∀ w,S w->zq w x d) (P:∀ w,T w->zq w y e) (U:i.vars.length+i.fields.length<=9223372036854775807)
  (j:(r=y∧i=e)∨(r=x∧i=d)∨yd g w r i):Loc w0 w (L++[(b,54,Qd)]) ((fun w=>zq w r i)::D):=by
 have o:Loc g w [(b,54,Qd)] []:=(Loc.start g).gain hb t p;rcases j with⟨rfl,rfl⟩|⟨rfl,rfl⟩|j
 ·exact(h.gave o).derive hT P
 ·exact(h.gave o).derive R I
 ·refine h.gave (yd.aside j U t p fun C v=>?_)
  match C with
  | 0=>simp
  | 1=>simp
  | 2=>simp
  | C+3=>simp
theorem zcd (ab:Bool) (f:zm->zm->zm) (hf:∀ (s t:zm) (w:World),Calls prog 119 #[s.v,t.v,.bool ab] w fun e C=>e=.returned (f s t).v∧Below w.heap.size w C)
  (p:Pg) (is:Nat->Ins) (x y:Pv) (d e:Pd) (w:World) (hx:zq w x d) (I:zq w y e) (o:zf p is=0) (h:zE p is d=0) (R : zE p is e=0):
  Calls prog 57 #[x.v,y.v,.bool ab] w fun q C=>∃ v,q=.returned v∧Yv w x y d e (Qx f d e) v C∧Below w.heap.size w C:=by
 have T:=(zp o).1;cases g:d.none with
 | true=>
  have P:=za (show Qx f d e=e by simp[Qx,g]);have i:=hx.e;rw[g]at i;clear hx I h R o T g;obtain⟨ay,⟨ai,aj,ae⟩,⟨ah,ag,af⟩⟩:=x;obtain⟨aq,⟨ar,au,ak⟩,⟨ao,an,al⟩⟩:=y;dsimp only at i;subst i;have J:=Loc.start w;go_enter func57,ntmps57;go_wp2_with (with_reducible first|refine lld J ?_|((first|refine lbx J ?_|refine lal J ?_|refine lbs J ?_);clear J;intro av aa J)|(refine zc J ?_;clear J;intro aa J))
  (try simp only[Exit.inBlock,Exit.then]);refine rt1 ?_
  exact⟨_,rfl,⟨⟨aq,⟨ar,au,ak⟩,⟨ao,an,al⟩⟩,rfl,.inl ⟨rfl,P.out⟩⟩,J.below⟩
 | false=>
  cases j:e.none with
  | true=>
   have P:=za (show Qx f d e=d by simp[Qx,g,j]);have i:=hx.e;have U:=I.e;rw[g]at i;rw[j]at U;clear hx I h R o T g j;obtain⟨ay,⟨ai,aj,ae⟩,⟨ah,ag,af⟩⟩:=x;obtain⟨aq,⟨ar,au,ak⟩,⟨ao,an,al⟩⟩:=y;dsimp only at i U;subst i U;have J:=Loc.start w;go_enter func57,ntmps57;go_wp2_with (with_reducible first|refine lld J ?_|((first|refine lbx J ?_|refine lal J ?_|refine lbs J ?_);clear J;intro av aa J)|(refine zc J ?_;clear J;intro aa J))
   (try simp only[Exit.inBlock,Exit.then]);refine rt1 ?_
   exact⟨_,rfl,⟨⟨false,⟨ai,aj,ae⟩,⟨ah,ag,af⟩⟩,rfl,.inr (.inl ⟨rfl,P.out⟩)⟩,J.below⟩
  | false=>
   have ax:Qx f d e=zW f d e:=by simp[Qx,g,j]
   rw[ax];refine(zej ab f hf p x y d e w hx I g j (zS.of h o g) (zS.of R o j) T).mono ?_;rintro q C ⟨r,aw,ac⟩;exact⟨_,aw,⟨r,rfl,.inr (.inr ac)⟩,ac.below⟩
theorem zce (g:Bool) (s t:zm) (w:World):Calls prog 119 #[s.v,t.v,.bool g] w fun e i=>e=.returned ((if g=true then jf else both) s t).v∧Below w.heap.size w i:=by
 cases g with
 | false=>exact Uf s t w
 | true=>exact zcl s t w
theorem zed {p:Pg}{is:Nat->Ins}(C:zf p is=0) {f:zm->zm->zm}(hf:Zs f) {d e:Pd}(j:zE p is d=0) (o:zE p is e=0):Ze (Qx f d e) d=qt e d:=by
 obtain⟨g,i⟩:=Va C hf j o;rw[Jw C j o]at g i;cases t:qt e d with
 | true=>rw[i t];exact YV.2 rfl
 | false=>
  cases I:Ze (Qx f d e) d with
  | false=>rfl
  | true=>
   have:=g t;rw[YV.1 I]at this;omega
theorem zfs {p:Pg}{is:Nat->Ins}(j:zf p is=0) {nb:Bool}{i:Nat}{x:Int × Pd}{s:List Pd × Bool}(h:qE p is s.1) (g:zE p is x.2=0) (C:0<=x.1∧x.1<=p.n):
  q3 nb i x s=if Ze (Qx (if (nb&&decide (x.1<=i))=true then jf else both) (s.1.getD x.1.toNat zC) x.2) (s.1.getD x.1.toNat zC)=true then s else (s.1.set x.1.toNat (Qx (if (nb&&decide (x.1<=i))=true then jf else both) (s.1.getD x.1.toNat zC) x.2),true):=by
 have t:Zs (if (nb&&decide (x.1<=i))=true then jf else both):=by
  split
  ·exact Zt
  ·exact J3
 have o:=h.r x.1.toNat (by omega);rw[zed j t o g,<- Jw j o g];rfl
end Go.Proofs.YtplcndmdkabmeaaGreatDoor
