/- The walk over the law's solveBegun; handed-back pictures as one fact. Conditions: none. | What calls hand back in new memory may be spoiled: pictures, edges, rows of pictures. Conditions: none. -/
import Derived.Test.YtplcndmdkabmeaaGreatDoorSolH
import Derived.Test.YtplcndmdkabmeaaGreatDoorSml
import Derived.Test.YtplcndmdkabmeaaGreatDoorFoot
import Derived.Test.YtplcndmdkabmeaaGreatDoorRunG
set_option linter.unusedSimpArgs false
set_option linter.unusedVariables false
set_option maxRecDepth 100000
set_option maxHeartbeats 4000000
namespace Go.Proofs.YtplcndmdkabmeaaGreatDoor
open Go.Proofs.Tryz
open Go.RowKit
theorem yq.zero (w:World) (p:Option Addr) (c:Nat):yq w ⟨p,0,c⟩ []:=⟨rfl,Nat.zero_le _,fun _=>j5,⟨yo rfl,0,0,fun h=>absurd h (Nat.lt_irrefl 0),fun k g=>absurd g (Nat.not_lt_zero k)⟩,fun k g=>absurd g (Nat.not_lt_zero k)⟩
theorem Loc.picsL {w0 w p:World}{L:List zg}{D:List zl}(h:Loc w0 w L D) {s:Sl}{l:List Pd}(g:Kw w p s l):Loc w0 p L ((fun w=>yq w s l)::D):=by
 obtain⟨U,R,C,j,i⟩:=g;refine(h.gave i).facts (fun T P ht=>?_);have I:=j.flatlen Jy (by decide);obtain⟨_,t⟩:=j.listC (B:=w.heap.size) (w:=T) Jy qJ (by decide) ⟨i.nodup,fun e o=>⟨i.ids e o,P e o⟩⟩;exact⟨by rw[I,C],j.max,fun k=>U.getD k qJ,t,fun k ab=>ht k (by omega)⟩
def JE:List Pd:=y5 zT 2 (qd 1 0 2) 2
theorem zcu:Zu zT 2 (qd 1 0 2) 0=true:=by kernel_rfl
theorem zcv:Zu zT 2 (qd 1 0 2) 1=false:=by kernel_rfl
theorem zcw:Yi zT 2 (qd 1 0 2) 1:=⟨zcv,fun g i=>by
 obtain rfl:g=0:=by omega
 exact zcu⟩
theorem zcx:zda zT 2 JE (qM 1 0 2)=true:=by kernel_rfl
theorem X6:JE.length=3:=by kernel_rfl
theorem zcy:(JE.getD 2 zC).none=false:=by kernel_rfl
theorem GQ (b:Nat):∀ k,k<=2->zE (z1 b) zT (JE.getD k zC)=0:=
 (Jj (p:=z1 b) (jl b) (JU (p:=z1 b) (is:=zT) (nv:=1) (nf:=0) rfl rfl) 2).r
theorem VX (w:World):
  Calls prog 19 #[] w fun e ai=>e=.returned (.bool true)∧Below w.heap.size w ai:=by
 have J:=Loc.start w;go_enter func19,ntmps19;go_upto_region 3 with(first|(with_reducible first|refine lld J ?_|((first|refine lbx J ?_|refine lal J ?_|refine lbs J ?_);clear J;intro ah i J)|(refine zc J ?_;clear J;intro i J))|(go_at_call 39;refine(j0 _).mono ?_;rintro e aj ⟨g,rfl,ad,af,ac⟩;replace J:=J.gain ac ad af;clear ad af ac;(try dsimp only))|(go_at_call 28;refine(zaW (z1 g) zT 1 0 rfl rfl _ (show (2:Nat)<=9223372036854775807 by decide) (qY (J.heap cIn)) (jl g)).mono ?_;rintro e aj ⟨k,⟨sp,sn,j⟩,rfl,U,aa⟩;obtain rfl:=U.one zcw;replace J:=J.picsL (l:=JE) aa;clear U aa;dsimp only)|(go_at_call 52;refine(zgj (z1 g) zT 1 0 rfl rfl ⟨sp,sn,j⟩ JE (jl g) _ (qY (J.heap cIn)) (J.get (S:=fun w=>yq w ⟨sp,sn,j⟩ JE) cMm) ((J.get (S:=fun w=>yq w ⟨sp,sn,j⟩ JE) cMm).n.trans X6) (GQ g)).mono ?_;rw[show zda zT (z1 g).n JE (qM 1 0 (z1 g).n)=true from zcx];rintro e i ⟨rfl,ab⟩;replace J:=J.grow ab;clear ab;dsimp only))
 obtain⟨t,-,ak,R,C⟩:=J.get (S:=fun w=>yq w ⟨sp,sn,j⟩ JE) cMm;rw[X6]at t;dsimp only at t R C;subst t;obtain⟨b,o,ae,p⟩:=R.ex;obtain rfl:=ae (by decide);have I:=zd.cell (P:=prog) J0 (p 2 (by decide)).1 ((p 2 (by decide)).2 0 _ rfl);rw[show (ak 2).none=false from (C 2 (by decide)).e.trans zcy]at I;have ag:=za I;have T:=za J.below;clear I ae p R C J;have J:=Loc.start i;go_wp2_with (with_reducible first|refine ldB ag.out J ?_|refine lld J ?_|((first|refine lbx J ?_|refine lal J ?_|refine lbs J ?_);clear J;intro ah i J)|(refine zc J ?_;clear J;intro i J))
 (try simp only[Exit.inBlock,Exit.then]);refine rt1 ?_
 exact⟨by simp,T.out.trans (J.below.mono T.out.size)⟩
def YY (B:Nat) (w:World):World:={ w with heap:=w.heap.mapIdx fun b i=>if b<B then .cells #[] 0 (0,0) else i }
theorem U6 {B:Nat}{w:World}{b:Nat}(h:B<=b):(YY B w).heap[b]? = w.heap[b]? :=by
 simp only[YY,Array.getElem?_mapIdx];cases w.heap[b]? with
 | none=>rfl
 | some o=>simp[Nat.not_lt.2 h]
theorem qO {B:Nat}{w:World}{b o:Nat}{v:Value}(h:(YY B w).cell? ⟨b,o,none⟩=some v):B<=b∧w.cell? ⟨b,o,none⟩=some v:=by
 rcases Nat.lt_or_ge b B with i|i
 ·exfalso
  simp only[World.cell?,YY,Array.getElem?_mapIdx]at h;cases j:w.heap[b]? with
  | none=>rw[j]at h;simp at h
  | some o2=>rw[j]at h;simp[i]at h
 ·refine⟨i,?_⟩
  simp only[World.cell?,U6 i]at h ⊢;exact h
theorem KE {B:Nat}{w:World}{b o:Nat}(hb:B<=b) (h:(YY B w).frozen? ⟨b,o,none⟩=false):w.frozen? ⟨b,o,none⟩=false:=by
 simp only[World.frozen?,U6 hb]at h ⊢;exact h
theorem Loc.cut {w0 w:World}{L:List zg}{D:List zl}{S:zl}(h:Loc w0 w L D) (j:S∈D):S (YY w0.heap.size w):=by
 obtain⟨X,o,i⟩:=h.data S j;exact i _ fun b p=>U6 (o b p).1.2
theorem zk.sp {B:Nat}{w:World}{s:Sl}{l:List Int}(h:zk (YY B w) s l):SpI B s w:=by
 obtain⟨b,C,o,p⟩:=h.at'.ex;refine⟨h.m,b,C,fun j=>⟨o j,?_⟩,fun t I=>?_⟩
 ·exact(qO ((p 0 j).2 0 _ rfl)).1
 ·have i:=qO ((p t I).2 0 _ rfl)
  simp only[Nat.mul_one,Nat.add_zero]at i;refine⟨KE i.1 (h.at'.fz b C (o (by omega)) t (by omega)),_,i.2⟩
theorem qR.sp {B:Nat}{w:World}{s:Sl}{ds:List Res}(h:qR (YY B w) s ds):SpG B s w:=by
 obtain⟨aa,T,U,t,R⟩:=h;obtain⟨b,C,p,j⟩:=t.ex;refine⟨T,b,C,fun o=>⟨p o,(qO ((j 0 o).2 0 _ rfl)).1⟩,fun k i=>⟨⟨?_,(ds.getD k zo).null,?_⟩,U k,?_,(R k i).sp⟩⟩
 ·have I:=qO ((j k i).2 0 _ rfl)
  refine KE I.1 (t.fz b C (p (by omega)) (k*7) ?_);exact Nat.mul_lt_mul_of_pos_right i (by decide)
 ·exact(qO ((j k i).2 0 _ rfl)).2
 ·exact(qO ((j k i).2 6 _ rfl)).2
theorem j3.sp {B:Nat}{w:World}{s:Sl}{j:List (List Res)}(h:j3 (YY B w) s j):SpR B s w:=by
 obtain⟨aa,U,T,C,I⟩:=h;obtain⟨b,R,o,p⟩:=C.ex;refine⟨b,R,o,fun k i=>⟨T k,?_,(I k i).sp⟩⟩;have t:=(qO ((p k i).2 0 _ rfl)).2;simpa using t
theorem zq.sp {B:Nat}{w:World}{x:Pv}{d:Pd}(h:zq (YY B w) x d) (hf:d.fields.length<=1000):SpP B x w:=⟨h.vars.sp,h.fields.sp,by rw[h.fields.n];exact hf⟩
theorem SpP.zero (B:Nat) (w:World):SpP B Ks w:=⟨⟨Nat.zero_le _,0,0,fun h=>absurd h (Nat.lt_irrefl 0),fun k i=>absurd i (Nat.not_lt_zero k)⟩,⟨0,0,fun h=>absurd h (Nat.lt_irrefl 0),fun k i=>absurd i (Nat.not_lt_zero k)⟩,Nat.zero_le _⟩
theorem yd.sp {w w' : World}{r:Pv}{d:Pd}(h:yd w w' r d) (i:d.vars.length+d.fields.length<=9223372036854775807) (hf:d.fields.length<=1000):SpP w.heap.size r w':=
 ((Loc.gotP (Loc.start w) h i).cut List.mem_cons_self).sp hf
structure SpL (es off B b o n:Nat) (w:World):Prop where
 ex:∀ k,k<n->∃ x:Pv,w.cell? ⟨b,o+k*es+off,none⟩=some (.bool x.none)∧w.cell? ⟨b,o+k*es+off+1,none⟩=some (.slice x.vars.p x.vars.n x.vars.cap)∧w.cell? ⟨b,o+k*es+off+2,none⟩=some (.slice x.fields.p x.fields.n x.fields.cap)∧SpP B x w
theorem SpP.none {B:Nat}{x:Pv}{w:World}(h:SpP B x w) (n:Bool):SpP B ⟨n,x.vars,x.fields⟩ w:=⟨h.v,h.f,h.m⟩
theorem SpL.like {es off B b o n:Nat}{w w' : World}(h:SpL es off B b o n w) (i:jq B w w'):SpL es off B b o n w':=by
 refine⟨fun k T=>?_⟩;obtain⟨x,j,p,t,U⟩:=h.ex k T;obtain⟨v0,C,k0⟩:=i.cell _ _ _ j;obtain⟨z,rfl⟩:=k0.ofBool;obtain⟨v1,I,aa⟩:=i.cell _ _ _ p;obtain rfl:=aa.slice;obtain⟨ac,R,ab⟩:=i.cell _ _ _ t;obtain rfl:=ab.slice;exact⟨⟨z,x.vars,x.fields⟩,C,I,R,(U.like i).none z⟩
theorem SpL.reads {es off B b o n:Nat}{w:World}(h:SpL es off B b o n w):∀ k,k<n->∃ x:Pv,zd prog 54 w b (o+k*es+off) x.v∧SpP B x w:=by
 intro k I;obtain⟨x,p,t,C,R⟩:=h.ex k I;refine⟨x,zd.agg Zj (qS p) (fun j v i=>?_) rfl,R⟩;have T:j<3:=(List.getElem?_eq_some_iff.1 i).1;rcases (show j=0∨j=1∨j=2 by omega) with rfl|rfl|rfl
 ·obtain rfl:=Option.some.inj i;exact p
 ·obtain rfl:=Option.some.inj i;exact t
 ·obtain rfl:=Option.some.inj i;exact C
theorem jS.sp {B:Nat}{w:World}{s:Sl}{es:List (Int × Pd)}(h:jS (YY B w) s es) (hf:∀ x∈es,x.2.fields.length<=1000):∃ b i:Nat,(0<s.n->s.p=some ⟨b,i,none⟩)∧SpL 4 1 B b i s.n w:=by
 obtain⟨U,T,t,R,I⟩:=h;obtain⟨b,i,C,j⟩:=I.ex;refine⟨b,i,C,⟨fun k o=>⟨(t.getD k Qu).x,?_,?_,?_,?_⟩⟩⟩
 ·exact(qO ((j k o).2 1 _ rfl)).2
 ·exact(qO ((j k o).2 2 _ rfl)).2
 ·exact(qO ((j k o).2 3 _ rfl)).2
 ·exact(R.at' k (by omega)).2.sp (hf _ (qX (by omega)))
theorem yq.sp {B:Nat}{w:World}{s:Sl}{l:List Pd}(h:yq (YY B w) s l) (hf:∀ k,k<l.length->(l.getD k zC).fields.length<=1000):∃ b j:Nat,(0<s.n->s.p=some ⟨b,j,none⟩)∧SpL 3 0 B b j s.n w:=by
 obtain⟨U,T,R,C,I⟩:=h;obtain⟨b,j,t,o⟩:=C.ex;refine⟨b,j,t,⟨fun k i=>⟨R k,?_,?_,?_,(I k i).sp (hf k (by omega))⟩⟩⟩
 ·exact(qO ((o k i).2 0 _ rfl)).2
 ·exact(qO ((o k i).2 1 _ rfl)).2
 ·exact(qO ((o k i).2 2 _ rfl)).2
theorem Jk.sp {w w' : World}{s:Sl}{es:List (Int × Pd)}(h:Jk w w' s es) (hf:∀ x∈es,x.2.fields.length<=1000):∃ b i:Nat,(0<s.n->s.p=some ⟨b,i,none⟩)∧SpL 4 1 w.heap.size b i s.n w':=(Loc.cut h List.mem_cons_self).sp hf
theorem Kw.sp {w w' : World}{s:Sl}{l:List Pd}(h:Kw w w' s l) (hf:∀ k,k<l.length->(l.getD k zC).fields.length<=1000):∃ b i:Nat,(0<s.n->s.p=some ⟨b,i,none⟩)∧SpL 3 0 w.heap.size b i s.n w':=((Loc.picsL (Loc.start w) h).cut List.mem_cons_self).sp hf
theorem SpP.box {B b:Nat}{x:Pv}{w:World}(h:SpP B x w) (hb:w.heap[b]? = some (.cells x.cells.toArray 54 (0,0))):SpL 3 0 B b 0 1 w:=by
 refine⟨fun k i=>⟨x,?_,?_,?_,h⟩⟩
 ·obtain rfl:k=0:=by omega
  simp[World.cell?,hb]
 ·obtain rfl:k=0:=by omega
  simp[World.cell?,hb]
 ·obtain rfl:k=0:=by omega
  simp[World.cell?,hb]
theorem SpI.mono {B i : Nat}{t:Sl}{w:World}(h:SpI B t w) (C:i<=B):SpI i t w:=by
 obtain⟨b,I,o,p⟩:=h.ex;exact⟨h.m,b,I,fun j=>⟨(o j).1,Nat.le_trans C (o j).2⟩,p⟩
theorem SpG.mono {B i : Nat}{s:Sl}{w:World}(h:SpG B s w) (t:i<=B):SpG i s w:=by
 obtain⟨b,T,o,p⟩:=h.ex;refine⟨h.m,b,T,fun j=>⟨(o j).1,Nat.le_trans t (o j).2⟩,fun k C=>⟨(p k C).1,?_⟩⟩;obtain⟨U,R,I⟩:=(p k C).2;exact⟨U,R,I.mono t⟩
theorem SpP.mono {B i : Nat}{x:Pv}{w:World}(h:SpP B x w) (j:i<=B):SpP i x w:=by
 obtain⟨b,R,o,p⟩:=h.f.ex;refine⟨h.v.mono j,⟨b,R,o,fun k C=>?_⟩,h.m⟩;obtain⟨r,I,t⟩:=p k C;exact⟨r,I,t.mono j⟩
theorem SpL.mono {es off B i b o n:Nat}{w:World}(h:SpL es off B b o n w) (C:i<=B):SpL es off i b o n w:=by
 refine⟨fun k I=>?_⟩;obtain⟨x,j,p,t,R⟩:=h.ex k I;exact⟨x,j,p,t,R.mono C⟩
structure SpV (B b o n:Nat) (w:World):Prop where
 ex:∀ k,k<n->B<=b∧(w.frozen? ⟨b,o+k*2,none⟩=false∧∃ z,w.cell? ⟨b,o+k*2,none⟩=some (.int .i64 z))∧(w.frozen? ⟨b,o+k*2+1,none⟩=false∧∃ z,w.cell? ⟨b,o+k*2+1,none⟩=some (.int .i64 z))
theorem jq.ofInt {B:Nat}{w w' : World}(i:jq B w w') {b o:Nat}(h:w.frozen? ⟨b,o,none⟩=false∧∃ z,w.cell? ⟨b,o,none⟩=some (.int .i64 z)):w'.frozen? ⟨b,o,none⟩=false∧∃ z,w'.cell? ⟨b,o,none⟩=some (.int .i64 z):=by
 obtain⟨p,z,j⟩:=h;obtain⟨v,C,t⟩:=i.cell _ _ _ j;obtain⟨I,rfl⟩:=t.ofInt;exact⟨(i.fz _ _ (qS j)).trans p,I,C⟩
theorem SpV.like {B b o n:Nat}{w w' : World}(h:SpV B b o n w) (j:jq B w w'):SpV B b o n w':=
 ⟨fun k i=>⟨(h.ex k i).1,j.ofInt (h.ex k i).2.1,j.ofInt (h.ex k i).2.2⟩⟩
structure SpT (B b o n:Nat) (w:World):Prop where
 ex:∀ k,k<n->∃ fs:Sl,w.cell? ⟨b,o+k*2+1,none⟩=some (.slice fs.p fs.n fs.cap)∧fs.n<=9223372036854775807∧∃ b' o' : Nat,(0<fs.n->fs.p=some ⟨b',o',none⟩)∧SpV B b' o' fs.n w
theorem SpT.like {B b o n:Nat}{w w' : World}(h:SpT B b o n w) (i:jq B w w'):SpT B b o n w':=by
 refine⟨fun k U=>?_⟩;obtain⟨t,C,I,j,ab,R,T⟩:=h.ex k U;obtain⟨v1,p,aa⟩:=i.cell _ _ _ C;obtain rfl:=aa.slice;exact⟨t,p,I,j,ab,R,T.like i⟩
structure SpS (B b o n:Nat) (w:World):Prop where
 ex:∀ k,k<n->B<=b∧w.frozen? ⟨b,o+k,none⟩=false∧∃ z,w.cell? ⟨b,o+k,none⟩=some (.string z)
theorem jL.ofStr {a:ByteArray}{v:Value}(h:jL (.string a) v):∃ b,v=.string b:=by
 cases h with
 | same=>exact⟨_,rfl⟩
 | str=>exact⟨_,rfl⟩
theorem SpS.like {B b o n:Nat}{w w' : World}(h:SpS B b o n w) (i:jq B w w'):SpS B b o n w':=by
 refine⟨fun k C=>?_⟩;obtain⟨p,t,z,j⟩:=h.ex k C;obtain⟨v,R,I⟩:=i.cell _ _ _ j;obtain⟨T,rfl⟩:=I.ofStr;exact⟨p,(i.fz _ _ (qS j)).trans t,T,R⟩
structure Yy (B:Nat) (r:Rn) (w:World):Prop where
 v:∃ b o:Nat,(0<r.vars.n->r.vars.p=some ⟨b,o,none⟩)∧SpV B b o r.vars.n w
 t:∃ b o:Nat,(0<r.things.n->r.things.p=some ⟨b,o,none⟩)∧SpT B b o r.things.n w
 l:∃ b o:Nat,(0<r.lines.n->r.lines.p=some ⟨b,o,none⟩)∧SpS B b o r.lines.n w
 n1:r.vars.n<=9223372036854775807
 n2:r.things.n<=9223372036854775807
 n3:r.lines.n<=9223372036854775807
theorem zZ.spV {B:Nat}{w:World}{p:Option Addr}{n:Nat}{vs:Nat->Vl}(h:zZ (YY B w) 2 p n (fun k=>(vs k).cells)):∃ b i:Nat,(0<n->p=some ⟨b,i,none⟩)∧SpV B b i n w:=by
 obtain⟨b,i,o,t⟩:=h.ex;refine⟨b,i,o,⟨fun k C=>?_⟩⟩;have j:=qO ((t k C).2 0 _ rfl);have R:=qO ((t k C).2 1 _ rfl);have I:=o (by omega);exact⟨j.1,⟨KE j.1 (h.fz b i I (k*2) (by omega)),_,j.2⟩,KE j.1 (by have:=h.fz b i I (k*2+1) (by omega);rwa [<- Nat.add_assoc]at this),_,R.2⟩
theorem jD.sp {B:Nat}{w:World}{r:Rn}{s:Rs}(h:jD (YY B w) r s):Yy B r w:=by
 obtain⟨⟨I,i,-⟩,-⟩:=h;refine⟨i.vars.spV,?_,?_,i.n1,i.n2,i.n3⟩
 ·obtain⟨b,t,p,C⟩:=i.things.ex
  refine⟨b,t,p,⟨fun k j=>⟨(I k).fs,(qO ((C k j).2 1 _ rfl)).2,(i.fields k j).1,(i.fields k j).2.spV⟩⟩⟩
 ·obtain⟨b,t,p,C⟩:=i.lines.ex
  refine⟨b,t,p,⟨fun k j=>?_⟩⟩;have o:=qO ((C k j).2 0 _ rfl);simp only[Nat.mul_one,Nat.add_zero]at o;exact⟨o.1,KE o.1 (i.lines.fz b t (p (by omega)) k (by omega)),_,o.2⟩
theorem Own.cut {B:Nat}{w:World}{R:List zg}(h:Own B w R):Own B (YY B w) R:=⟨h.nodup,fun e i=>⟨(h.at' e i).1,(U6 (h.at' e i).1).trans (h.at' e i).2⟩⟩
theorem yE.sp {r:Rn}{s:Rs}{t:List Th}{Rv o j i:List zg}{B:Nat}{w:World}(h:yE r s t Rv o j i) (p:Own B w (Rv++(o++(j++i)))):Yy B r w:=(h.is p.cut).sp
theorem Yy.like {B:Nat}{r:Rn}{w w' : World}(h:Yy B r w) (i:jq B w w'):Yy B r w':=by
 obtain⟨⟨j,aa,h1,v⟩,⟨o,ab,C,t⟩,⟨p,ac,I,l⟩,R,T,U⟩:=h;exact⟨⟨j,aa,h1,v.like i⟩,⟨o,ab,C,t.like i⟩,⟨p,ac,I,l.like i⟩,R,T,U⟩
theorem Yy.zero (B:Nat) (w:World):Yy B Gh w:=
 ⟨⟨0,0,fun h=>absurd h (Nat.lt_irrefl 0),⟨fun k i=>absurd i (Nat.not_lt_zero k)⟩⟩,⟨0,0,fun h=>absurd h (Nat.lt_irrefl 0),⟨fun k i=>absurd i (Nat.not_lt_zero k)⟩⟩,⟨0,0,fun h=>absurd h (Nat.lt_irrefl 0),⟨fun k i=>absurd i (Nat.not_lt_zero k)⟩⟩,Nat.zero_le _,Nat.zero_le _,Nat.zero_le _⟩
theorem Yy.mono {B j : Nat}{r:Rn}{w:World}(h:Yy B r w) (hB:j<=B):Yy j r w:=by
 have p:∀ {b o n:Nat},SpV B b o n w->SpV j b o n w:=fun h=>⟨fun k i=>⟨Nat.le_trans hB (h.ex k i).1,(h.ex k i).2⟩⟩
 obtain⟨⟨I,al,ae,v⟩,⟨R,an,af,t⟩,⟨T,ao,ag,l⟩,ah,ai,aj⟩:=h;refine⟨⟨I,al,ae,p v⟩,⟨R,an,af,⟨fun k i=>?_⟩⟩,⟨T,ao,ag,⟨fun k i=>⟨Nat.le_trans hB (l.ex k i).1,(l.ex k i).2⟩⟩⟩,ah,ai,aj⟩;obtain⟨ad,U,aa,C,ak,ab,ac⟩:=t.ex k i;exact⟨ad,U,aa,C,ak,ab,p ac⟩
section
variable {P : Program} {ops : Array Oper} {Q : Exit -> Act -> World -> Prop} {rest : List Oper} {a : Act} {w : World} {d : Option Tmp} {ty : TypeId} {pos : String} {after : Array Edge} {g : Option (Nat × Bool)}
theorem X7 {x y:Operand}{T:TypeId}{b off:Nat}{u0 u1 v0 v1:Value}(ad:Region.wanted ⟨d,.store T x y,ty,pos,after,g⟩ (yielded ops a.tmps)=true) (ae:a.eval x=.pointer (some ⟨b,off,none⟩)) (i:a.eval y=.agg #[v0,v1]) (j:v0.oneCell'=true) (p:v1.oneCell'=true) (hT:Y9 P T 2)
  (t:w.cell? ⟨b,off,none⟩=some u0) (R:w.frozen? ⟨b,off,none⟩=false) (C:w.cell? ⟨b,off+1,none⟩=some u1) (U:w.frozen? ⟨b,off+1,none⟩=false) (h:wpList P ops Q rest (a.put d undef) ((w.setCell ⟨b,off,none⟩ v0).setCell ⟨b,off+1,none⟩ v1)):wpList P ops Q (⟨d,.store T x y,ty,pos,after,g⟩::rest) a w:=by
 refine Jm (o:=⟨d,.store T x y,ty,pos,after,g⟩) (w':=(w.setCell ⟨b,off,none⟩ v0).setCell ⟨b,off+1,none⟩ v1) ad ?_ h;have ac:(a.eval y).cells.size=2:=by rw[i];rfl
 have aa:(a.eval y).cells.toList=[v0,v1]:=by rw[i];rfl
 have I : (w.setCell ⟨b,off,none⟩ v0).cell? ⟨b,off+1,none⟩=some u1:=(World.cell?_setCell_other _ _ _ _ (by simp)).trans C;have ab:(storeCells ⟨b,off,none⟩ [v0,v1] 0).run P w=.ok () ((w.setCell ⟨b,off,none⟩ v0).setCell ⟨b,off+1,none⟩ v1):=by
  rw[storeCells,Sem.run_bind,zG,run_store P w _ v0 .plain j,Nat.add_zero,t];simp only[R,Bool.false_eq_true,if_false,Result.andThen_ok];rw[storeCells,Sem.run_bind,zG,run_store P _ _ v1 .plain p,I];simp[U,storeCells]
 simp[execOp,Instr.storeAt,ae,Instr.sureAddr,storeVar,ac,qH hT.size,aa,ab]
end
end Go.Proofs.YtplcndmdkabmeaaGreatDoor
