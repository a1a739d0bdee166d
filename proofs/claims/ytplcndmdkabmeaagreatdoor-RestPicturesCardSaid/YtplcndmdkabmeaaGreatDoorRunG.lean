/- The walks over what makes a run that begins. Conditions: the bounds on variables that a right program has. | The walks over the copies of runs: the reference's CopyRun, the program's own. Conditions: what is copied lies in memory that was there; the bounds on lengths that the model asks. -/
import Derived.Test.YtplcndmdkabmeaaGreatDoorRrn
import Derived.Test.YtplcndmdkabmeaaGreatDoorLib
import Derived.Test.YtplcndmdkabmeaaGreatDoorCod
set_option linter.unusedSimpArgs false
set_option linter.unusedVariables false
set_option maxRecDepth 100000
set_option maxHeartbeats 1600000
namespace Go.Proofs.YtplcndmdkabmeaaGreatDoor
open Go.Proofs.Tryz
open Go.RowKit
structure Rs where
 at' : Int
 vars:List Vl
 things:List (Int × List Vl)
 taken:Int
 lines:List ByteArray
 ending:Int
def dV:Vl:=⟨0,0⟩
def dT:Int × List Vl:=(0,[])
abbrev Rs.val (s:Rs) (k:Nat):Vl:=s.vars.getD k dV
abbrev Rs.thing (s:Rs) (k:Nat):Int × List Vl:=s.things.getD k dT
abbrev Rs.field (s:Rs) (k j:Nat):Vl:=(s.things.getD k dT).2.getD j dV
abbrev Rs.line (s:Rs) (k:Nat):ByteArray:=s.lines.getD k ByteArray.empty
abbrev JB (l:List Vl):List Value:=l.flatMap Vl.cells
abbrev Th.cells (t:Th):List Value:=[.int .i64 t.site,.slice t.fs.p t.fs.n t.fs.cap]
abbrev Ge (l:List Th):List Value:=l.flatMap Th.cells
abbrev yp (s:ByteArray):List Value:=[.string s]
abbrev Gf (l:List ByteArray):List Value:=l.flatMap yp
theorem jc (x:Vl):(Vl.cells x).length=2:=rfl
theorem zez (x:Th):(Th.cells x).length=2:=rfl
theorem zeA (x:ByteArray):(yp x).length=1:=rfl
structure jD (w:World) (r:Rn) (s:Rs):Prop where
 ex:∃ ths:Nat->Th,Ju w r s.val ths s.field s.line∧∀ k,k<s.things.length->(ths k).site=(s.thing k).1∧(ths k).fs.n=(s.thing k).2.length
 a:r.at'=s.at'
 t:r.taken=s.taken
 e:r.ending=s.ending
 nv:r.vars.n=s.vars.length
 nt:r.things.n=s.things.length
 nl:r.lines.n=s.lines.length
theorem jD.grow {w w' : World}{r:Rn}{s:Rs}(h:jD w r s) (hb:Below w.heap.size w w'):jD w' r s:=by
 obtain⟨⟨P,g,i⟩,j,o,p,t,C,I⟩:=h;exact⟨⟨P,g.grow hb,i⟩,j,o,p,t,C,I⟩
theorem jD.same {w:World}{a b:Rn}{s:Rs}(ha:jD w a s) (hb:jD w b s):∃ C I g i j o p t,Ju w a C g j p∧Ju w b I i o t∧Z6 a b C I g i j o p t=true:=by
 obtain⟨⟨g,ah,ai⟩,aj,ak,al,an,ao,aq⟩:=ha;obtain⟨⟨i,U,aa⟩,ab,ac,ad,ae,af,ag⟩:=hb;refine⟨_,_,g,i,_,_,_,_,ah,U,?_⟩;have P:Qv a b s.val s.val=false:=by
  simp[Qv,yX,aj,ak,al,an,ao,aq,ab,ac,ad,ae,af,ag,qa,YS]
 have R:qa (yl g i s.field s.field) a.things.n=false:=qu fun k ar=>by
  have:=ai k (by omega);have:=aa k (by omega);simp[yl,yX,qa,YS, *]
 have T:qa (yC s.line s.line) a.lines.n=false:=qu fun k _=>by simp[yC]
 simp[Z6,P,R,T]
def zbm (r:Rn) (vs:Nat->Vl) (g:Nat->Th) (i:Nat->Nat->Vl) (j:Nat->ByteArray):Rs:=
 ⟨r.at',(List.range r.vars.n).map vs,(List.range r.things.n).map (fun k=>((g k).site,(List.range (g k).fs.n).map (i k))),r.taken,(List.range r.lines.n).map j,r.ending⟩
theorem Ju.is {w:World}{r:Rn}{vs:Nat->Vl}{i:Nat->Th}{o:Nat->Nat->Vl}{j:Nat->ByteArray}(h:Ju w r vs i o j):jD w r (zbm r vs i o j):=by
 refine⟨⟨i,⟨?_,h.things,fun k g=>⟨(h.fields k g).1,?_⟩,?_,h.n1,h.n2,h.n3⟩,fun k g=>?_⟩,rfl,rfl,rfl,by simp[zbm],by simp[zbm],by simp[zbm]⟩
 ·refine h.vars.congr fun k g=>?_
  show Vl.cells (((List.range r.vars.n).map vs).getD k dV)=_
  rw[zV _ _ _ _ g]
 ·refine(h.fields k g).2.congr fun C p=>?_
  show ((((List.range r.things.n).map _).getD k dT).2.getD C dV).cells=_
  rw[zV _ _ _ _ g,zV _ _ _ _ p]
 ·refine h.lines.congr fun k g=>?_
  show [Value.string (((List.range r.lines.n).map j).getD k ByteArray.empty)]=_
  rw[zV _ _ _ _ g]
 ·have t : k<r.things.n:=by simpa [zbm] using g
  show (i k).site=(((List.range r.things.n).map _).getD k dT).1∧(i k).fs.n=(((List.range r.things.n).map _).getD k dT).2.length
  rw[zV _ _ _ _ t];simp
inductive yh:List Th->List (Int × List Vl)->List zg->Prop where
 | nil:yh [] [] []
 | cons {t:Th} {l:List Vl} {R:List zg} {ts:List Th} {ths:List (Int × List Vl)} {Rf:List zg} (h:zB 77 2 t.fs.p t.fs.n t.fs.cap (JB l) R) (hs:yh ts ths Rf):yh (t::ts) ((t.site,l)::ths) (R++Rf)
theorem yh.snoc {j:List Th}{i:List (Int × List Vl)}{g:List zg}(h:yh j i g) {t:Th}{l:List Vl}{R:List zg}(o:zB 77 2 t.fs.p t.fs.n t.fs.cap (JB l) R):
  yh (j++[t]) (i++[(t.site,l)]) (g++R):=by
 induction h with
 | nil=>have:=yh.cons o .nil;simpa using this
 | cons h hs ih=>rw[List.append_assoc];exact .cons h ih
theorem yh.len {i:List Th}{g:List (Int × List Vl)}{j:List zg}(h:yh i g j):i.length=g.length:=by
 induction h with
 | nil=>rfl
 | cons h hs ih=>simp[ih]
theorem yh.get {g:List Th}{I:List (Int × List Vl)}{T:List zg}(h:yh g I T) (i:Th):∀ k,k<g.length->∃ P j R,T=P++(j++R)∧(I.getD k dT).1=(g.getD k i).site∧
  zB 77 2 (g.getD k i).fs.p (g.getD k i).fs.n (g.getD k i).fs.cap (JB (I.getD k dT).2) j∧
  ∀ C o,zB 77 2 (g.getD k i).fs.p (g.getD k i).fs.n (g.getD k i).fs.cap (JB C) o->yh g (I.set k ((g.getD k i).site,C)) (P++(o++R)):=by
 induction h with
 | nil=>intro k aa;exact absurd aa (by simp)
 | @cons t l j g I T h hs ih=>
  intro k aa;cases k with
  | zero=>exact⟨[],j,T,rfl,rfl,h,fun C o U=>by simpa using yh.cons (t:=t) U hs⟩
  | succ k=>
   obtain⟨P,ab,R,ac,ad,ae,af⟩:=ih k (by simpa using aa);exact⟨j++P,ab,R,by rw[ac,List.append_assoc],ad,ae,fun C o U=>by
    rw[List.append_assoc];exact .cons h (af C o U)⟩
structure yE (r:Rn) (s:Rs) (ts:List Th) (Rv Rt Rl Rf:List zg):Prop where
 vars:zB 77 2 r.vars.p r.vars.n r.vars.cap (JB s.vars) Rv
 things:zB 79 2 r.things.p r.things.n r.things.cap (Ge ts) Rt
 lines:zB 9 1 r.lines.p r.lines.n r.lines.cap (Gf s.lines) Rl
 fields:yh ts s.things Rf
 a:r.at'=s.at'
 t:r.taken=s.taken
 e:r.ending=s.ending
def dTh:Th:=⟨0,⟨none,0,0⟩⟩
theorem yE.is {r:Rn}{s:Rs}{g:List Th}{Rv o Rl i:List zg}{B:Nat}{w:World}(h:yE r s g Rv o Rl i) (T:Own B w (Rv++(o++(Rl++i)))):jD w r s:=by
 have al:Own B w Rv:=T.sub (List.sublist_append_left _ _);have U:=T.sub (List.sublist_append_right Rv (o++(Rl++i)));have ak:Own B w o:=U.sub (List.sublist_append_left _ _);have aa:=U.sub (List.sublist_append_right o (Rl++i));have ol:Own B w Rl:=aa.sub (List.sublist_append_left _ _);have of:Own B w i:=aa.sub (List.sublist_append_right Rl i);obtain⟨v1,an⟩:=h.vars.listC jc dV (by decide) al;obtain⟨t1,t2⟩:=h.things.listC zez dTh (by decide) ak;obtain⟨ah,ai⟩:=h.lines.listC zeA ByteArray.empty (by decide) ol;have af:=h.fields.len;have I:∀ k,k<r.things.n->(s.thing k).1=(g.getD k dTh).site∧(g.getD k dTh).fs.n<=9223372036854775807∧(g.getD k dTh).fs.n=(s.thing k).2.length∧zZ w 2 (g.getD k dTh).fs.p (g.getD k dTh).fs.n (fun j=>(s.field k j).cells):=by
  intro k C;obtain⟨ab,P,ac,ad,ae,R,_⟩:=h.fields.get dTh k (by omega);subst ad;have aj:Own B w P:=(of.sub (List.sublist_append_right ab (P++ac))).sub (List.sublist_append_left _ _);obtain⟨f1,f2⟩:=R.listC jc dV (by decide) aj;exact⟨ae,R.max,f1,f2⟩
 refine⟨⟨fun k=>g.getD k dTh,⟨an,t2,fun k C=>⟨(I k C).2.1,(I k C).2.2.2⟩,ai,h.vars.max,h.things.max,h.lines.max⟩,fun k C=>?_⟩,h.a,h.t,h.e,v1,t1.trans af,ah⟩;have:=I k (by omega);exact⟨this.1.symm,this.2.2.1⟩
theorem ziY {l:List Vl}:∀ u∈JB l,u.oneCell'=true:=by
 intro u i;obtain⟨x,_,g⟩:=List.mem_flatMap.1 i;simp only[Vl.cells,List.mem_cons,List.not_mem_nil,or_false]at g;rcases g with rfl|rfl<;>rfl
theorem zjm {l:List ByteArray}:∀ u∈Gf l,u.oneCell'=true:=by
 intro u i;obtain⟨x,_,g⟩:=List.mem_flatMap.1 i;simp only[yp,List.mem_cons,List.not_mem_nil,or_false]at g;subst g;rfl
theorem ziZ (a:Option Addr) (n cap:Nat) (w:World):(binOp .eql 42 (.slice a n cap) (.slice none 0 0)).run prog w=.ok (.bool a.isNone) w:=by cases a<;>kernel_rfl
theorem zi0 (a:Option Addr) (n cap:Nat) (x y:Operand) (w:World):(eqGuard .eql 42 x y (.slice a n cap) (.slice none 0 0)).run prog w=.ok () w:=by kernel_rfl
theorem zbn {ops:Array Oper}{Q:Exit->Act->World->Prop}{g:Act}{w:World}{rest:List Oper}{d:Option Tmp}{ty u:TypeId}{pos:String}{after:Array Edge}{x y:Operand}{a:Option Addr}{n cap:Nat}{b:Bool}(i:a.isNone=b) (ha:g.eval x=.slice a n cap) (hb:g.eval y=.slice none 0 0)
  (h:wpList prog ops Q rest (g.put d (.bool b)) w):wpList prog ops Q (⟨d,.binOp .eql 42 x y u,ty,pos,after,none⟩::rest) g w:=
 YK (w':=w) (by rw[ha,hb];exact zi0 a n cap x y w) (by rw[ha,hb];rw[<- i];exact ziZ a n cap w) h
theorem UN (p:Option Addr) (n cap:Nat) (l:List Vl) (w:World) (C:zZ w 2 p n (fun k=>Vl.cells (l.getD k dV))) (hn:n=l.length) (hb:n*16<=140737488355328):
  Calls prog 108 #[.slice p n cap] w fun e i=>∃ t j R,e=.returned (.slice t n j)∧zB 77 2 t n j (l.flatMap Vl.cells) R∧Own w.heap.size i R∧Below w.heap.size w i:=by
 have P:=za (fun i (aj:Below w.heap.size w i)=>(C.grow aj).news (l:=l) jc hn);have ab:(l.flatMap Vl.cells).length=n*2:=by rw[jr jc,hn]
 have ae:∀ u∈l.flatMap Vl.cells,u.oneCell'=true:=by
  intro u ai;obtain⟨x,_,af⟩:=List.mem_flatMap.1 ai;simp only[Vl.cells,List.mem_cons,List.not_mem_nil,or_false]at af;rcases af with rfl|rfl<;>rfl
 have ac : n <= maxLen := by have : maxLen = 9223372036854775807 := rfl
                             omega
 have aa:p=none->l=[]:=by
  rintro rfl;obtain⟨b,o,ah,_⟩:=C.ex;rcases Nat.eq_zero_or_pos n with h0|h0
  ·exact List.length_eq_zero_iff.1 (by omega)
  ·exact absurd (ah h0) (by simp)
 have I:=za aa;have T:=za ae;have g:=za (And.intro ab (And.intro ac (And.intro hn hb)));clear C aa ae ab ac hn hb;have J:=Loc.start w;cases p with
 | none=>
  have h0:=I.out rfl;subst h0;obtain rfl:n=0:=by have:=g.out.2.2.1;simpa using this
  clear g T P I;go_enter func108,ntmps108;go_wp2_with (refine zbn (b:=true) rfl rfl rfl ?_);go_ret;exact⟨none,0,[],rfl,zB.nil,Own.nil,J.below⟩
 | some ad=>
  go_enter func108,ntmps108;go_wp2_with (first|(refine zbn (b:=false) rfl rfl rfl ?_)|(refine QX J rfl Zi ?_;clear J;intro ak an J)|(refine zF (R:=[]) (K:=[]) (zB.nil (p:=ak)) (by simpa using J) rfl rfl rfl Zi V5 (by decide) rfl (P.out _ J.below) g.out.1 T.out (by rw[Nat.zero_add];exact g.out.2.1) (by rw[Nat.zero_add];exact g.out.2.2.2) ?_;clear J;intro t j ag i U J));go_ret;simp only[Nat.zero_add,List.nil_append]at U J ⊢;exact⟨t,j,ag,rfl,U,J.own,J.below⟩
theorem zi1 (a:Option Addr) (n cap:Nat) (w:World):(binOp .eql 44 (.slice a n cap) (.slice none 0 0)).run prog w=.ok (.bool a.isNone) w:=by cases a<;>kernel_rfl
theorem zi2 (a:Option Addr) (n cap:Nat) (x y:Operand) (w:World):(eqGuard .eql 44 x y (.slice a n cap) (.slice none 0 0)).run prog w=.ok () w:=by kernel_rfl
theorem zbo {ops:Array Oper}{Q:Exit->Act->World->Prop}{g:Act}{w:World}{rest:List Oper}{d:Option Tmp}{ty u:TypeId}{pos:String}{after:Array Edge}{x y:Operand}{a:Option Addr}{n cap:Nat}{b:Bool}(i:a.isNone=b) (ha:g.eval x=.slice a n cap) (hb:g.eval y=.slice none 0 0)
  (h:wpList prog ops Q rest (g.put d (.bool b)) w):wpList prog ops Q (⟨d,.binOp .eql 44 x y u,ty,pos,after,none⟩::rest) g w:=
 YK (w':=w) (by rw[ha,hb];exact zi2 a n cap x y w) (by rw[ha,hb];rw[<- i];exact zi1 a n cap w) h
theorem zcR (p:Option Addr) (n cap:Nat) (l:List ByteArray) (w:World) (C:zZ w 1 p n (fun k=>yp (l.getD k ByteArray.empty))) (hn:n=l.length) (hb:n*16<=140737488355328):
  Calls prog 109 #[.slice p n cap] w fun e i=>∃ t j R,e=.returned (.slice t n j)∧zB 9 1 t n j (l.flatMap yp) R∧Own w.heap.size i R∧Below w.heap.size w i:=by
 have P:=za (fun i (aj:Below w.heap.size w i)=>(C.grow aj).news (l:=l) zeA hn);have ab:(l.flatMap yp).length=n*1:=by rw[jr zeA,hn]
 have ae:∀ u∈l.flatMap yp,u.oneCell'=true:=by
  intro u ai;obtain⟨x,_,af⟩:=List.mem_flatMap.1 ai;simp only[yp,List.mem_cons,List.not_mem_nil,or_false]at af;subst af;rfl
 have ac : n <= maxLen := by have : maxLen = 9223372036854775807 := rfl
                             omega
 have aa:p=none->l=[]:=by
  rintro rfl;obtain⟨b,o,ah,_⟩:=C.ex;rcases Nat.eq_zero_or_pos n with h0|h0
  ·exact List.length_eq_zero_iff.1 (by omega)
  ·exact absurd (ah h0) (by simp)
 have I:=za aa;have T:=za ae;have g:=za (And.intro ab (And.intro ac (And.intro hn hb)));clear C aa ae ab ac hn hb;have J:=Loc.start w;cases p with
 | none=>
  have h0:=I.out rfl;subst h0;obtain rfl:n=0:=by have:=g.out.2.2.1;simpa using this
  clear g T P I;go_enter func109,ntmps109;go_wp2_with (refine zbo (b:=true) rfl rfl rfl ?_);go_ret;exact⟨none,0,[],rfl,zB.nil,Own.nil,J.below⟩
 | some ad=>
  go_enter func109,ntmps109;go_wp2_with (first|(refine zbo (b:=false) rfl rfl rfl ?_)|(refine QX J rfl Gb ?_;clear J;intro ak an J)|(refine zF (R:=[]) (K:=[]) (zB.nil (p:=ak)) (by simpa using J) rfl rfl rfl Gb zik (by decide) rfl (P.out _ J.below) g.out.1 T.out (by rw[Nat.zero_add];exact g.out.2.1) (by rw[Nat.zero_add];exact g.out.2.2.2) ?_;clear J;intro t j ag i U J));go_ret;simp only[Nat.zero_add,List.nil_append]at U J ⊢;exact⟨t,j,ag,rfl,U,J.own,J.below⟩
def qc (n:Nat):Rs:=⟨0,List.replicate n dV,[],0,[],0⟩
theorem zbp (n:Nat):(List.replicate n [Value.int .i64 0,Value.int .i64 0]).flatten=JB (List.replicate n dV):=by
 simp[JB,List.flatMap,dV]
def zgc (w:World) (s:Rs) (e:Ending) (w' : World):Prop:=∃ r p o j i g,e=.returned (Rn.v r)∧yE r s p o j i g∧Own w.heap.size w' (o++(j++(i++g)))∧Below w.heap.size w w'
theorem Gg (p:Pg) (n:Nat) (w:World) (j:p.vars=n) (hn:n<=8):
  Calls prog 46 #[p.v] w fun e t=>zgc w (qc n) e t:=by
 obtain⟨vars,I,P,R,cap⟩:=p;dsimp only at j;subst j;have g:=za hn;clear hn;have J:=Loc.start w;go_enter func46,ntmps46;go_wp2_with (first|(with_reducible first|refine lld J ?_|((first|refine lbx J ?_|refine lal J ?_);clear J;intro C o J)|(refine zc J ?_;clear J;intro o J))|(refine Kb J rfl Zi V5 rfl rfl (by have:=g.out;omega) (by have:=g.out;omega) ?_;clear J;intro i o J));refine rt1 ?_;rw[zbp]at J;have hn:=g.out;refine⟨⟨0,⟨some ⟨i,0,none⟩,n,n⟩,⟨none,0,0⟩,0,⟨none,0,0⟩,0⟩,[],[(i,77,JB (List.replicate n dV))],[],[],[],rfl,⟨zB.full (by rw[jr jc];simp[qc]) (by show n<=maxLen;have:maxLen=9223372036854775807:=rfl;omega),zB.nil,zB.nil,.nil,rfl,rfl,rfl⟩,?_,J.below⟩;exact J.ownOf (by simp)
theorem Loc.ofOwn {w w' : World}{R:List zg}(hb:Below w.heap.size w w') (i:Own w.heap.size w' R):Loc w w' R []:=
 ⟨hb,i.nodup,fun e g=>(i.at' e g).1,fun e g=>(i.at' e g).2,fun S j=>by cases j⟩
def Gh:Rn:=⟨0,⟨none,0,0⟩,⟨none,0,0⟩,0,⟨none,0,0⟩,0⟩
set_option maxHeartbeats 8000000
structure zi3 (s:Rs):Prop where
 v:s.vars.length<=8
 t:s.things.length<=100
 f:∀ k,(s.thing k).2.length<=3
 l:s.lines.length*16<=140737488351232
def yi (B m:Nat) (l:List Vl):Value->World->Prop:=fun v w=>∃ i cap g,v=.slice i m cap∧zB 77 2 i m cap (JB l) g∧Own B w g
theorem yi.stable {B m:Nat}{l:List Vl}:qC (yi B m l):=by
 rintro v w C p ⟨t,cap,g,i,j,o⟩;exact⟨t,cap,g,i,j,o.grow p⟩
def y3 (B m:Nat) (j:Int) (l:List Vl):Value->World->Prop:=fun v w=>∃ i cap g,v=.agg #[.int .i64 j,.slice i m cap]∧zB 77 2 i m cap (JB l) g∧Own B w g
theorem y3.stable {B m:Nat}{C:Int}{l:List Vl}:qC (y3 B m C l):=by
 rintro v w I p ⟨t,cap,g,i,j,o⟩;exact⟨t,cap,g,i,j,o.grow p⟩
def ZU (B m:Nat) (j:Int) (l:List Vl):Value->World->Prop:=fun v w=>∃ i cap g b,v=.slice (some ⟨b,0,none⟩) 1 1∧zB 77 2 i m cap (JB l) g∧Own B w g∧w.heap[b]? = some (.cells #[.int .i64 j,.slice i m cap] 79 (0,0))
theorem ZU.stable {B m:Nat}{I:Int}{l:List Vl}:qC (ZU B m I l):=by
 rintro v w P i ⟨C,cap,j,b,o,p,t,g⟩;exact⟨C,cap,j,b,o,p,t.grow i,(i.block _ (zz g)).trans g⟩
theorem zB.types {E size:Nat}{p:Option Addr}{n cap:Nat}{xs:List Value}{R:List zg}(h:zB E size p n cap xs R):∀ e∈R,e.2.1=E:=by
 intro e i;rcases h.2 with⟨_,_,g⟩|⟨o,j,_,g,_⟩
 ·subst g;cases i
 ·subst g;rw[List.mem_singleton.1 i]
theorem Own.apart {B:Nat}{w:World}{R i : List zg}(h:Own B w R) (j : Own B w i) {E p : TypeId}(P:∀ e∈R,e.2.1=E) (T : ∀ e∈i,e.2.1=p) (ae:E≠p):Own B w (R++i):=by
 refine⟨?_,fun e g=>?_⟩
 ·rw[List.map_append,List.nodup_append]
  refine⟨h.nodup,j.nodup,fun a U b ab aa=>?_⟩;subst aa;obtain⟨e,g,ac⟩:=List.mem_map.1 U;obtain⟨t,I,ad⟩:=List.mem_map.1 ab;have C:=(h.at' e g).2;have o:=(j.at' t I).2;rw[ac]at C;rw[ad,C]at o;simp only[Option.some.injEq,Obj.cells.injEq]at o;exact ae ((P e g).symm.trans (o.2.1.trans (T t I)))
 ·rcases List.mem_append.1 g with g|g
  ·exact h.at' e g
  ·exact j.at' e g
def Xc (B m:Nat) (l:List ByteArray):Value->World->Prop:=fun v w=>∃ i cap g,v=.slice i m cap∧zB 9 1 i m cap (Gf l) g∧Own B w g
theorem Xc.stable {B m:Nat}{l:List ByteArray}:qC (Xc B m l):=by
 rintro v w C p ⟨t,cap,g,i,j,o⟩;exact⟨t,cap,g,i,j,o.grow p⟩
theorem zhd (r:Rn) (s:Rs) (w:World) (U:jD w r s) (hf:zi3 s):
  Calls prog 63 #[r.v] w fun e C=>zgc w s e C:=by
 obtain⟨⟨ths,U,ac⟩,a3,a6,a4,a7,aH,a5⟩:=U;obtain⟨bk,b6,aU,aR⟩:=U.things.ex;have bg:=za (fun C (ar:Below w.heap.size w C)=>UN r.vars.p r.vars.n r.vars.cap s.vars C (U.vars.grow ar) a7 (by have:=hf.v;omega));have aZ:=za (fun C (ar:Below w.heap.size w C)=>zcR r.lines.p r.lines.n r.lines.cap s.lines C (U.lines.grow ar) a5 (by have:=hf.l;omega));have aW:=za (fun k (aS:k<r.things.n) C (ar:Below w.heap.size w C)=>UN (ths k).fs.p (ths k).fs.n (ths k).fs.cap (s.thing k).2 C ((U.fields k aS).2.grow ar) (ac k (by omega)).2 (by have:=hf.f k;have:=(ac k (by omega)).2;omega));have be:=za ac;have bb:=za aU;have aK:=za aR;have aa:=za (And.intro hf (And.intro a3 (And.intro a6 (And.intro a4 (And.intro a7 (And.intro aH a5))))));have aT:maxLen=9223372036854775807:=rfl;have ba:=za aT;have bA:=U.n2;clear U ac a3 a6 a4 a7 aH a5 hf aU aR aT;have J:=Loc.start w;go_enter func63,ntmps63;go_step;go_step;go_step
 ((with_reducible refine lbx J ?_);clear J;intro aB ae J)
 go_upto_region 1 with(with_reducible refine lal J ?_;clear J;intro aD ae J)
 obtain⟨aC,b1⟩:∃ x,x=aD:=⟨_,rfl⟩;subst b1;obtain⟨o,aI⟩:∃ x,x=ae:=⟨_,rfl⟩;subst aI;refine zb [6,7,8,9,10,11,12] ?_
 iterate 2 refine qdv ?_
 refine qdn (yi o.heap.size r.vars.n s.vars) yi.stable J ?_ ?_
 ·intro g w i J _ q;simp only[aG]at q;simp only[fD];simp only[q]
  go_wp2_with (go_at_call 108;refine(bg.out _ J.below).mono ?_;rintro e aV ⟨ad,av,aM,rfl,al,ak,aq⟩;dsimp only);exact⟨rfl,_,rfl,aq,_,_,_,rfl,al,ak.mono i.size⟩
 iterate 2 refine qdv ?_
 refine qdn (Xc o.heap.size r.lines.n s.lines) Xc.stable J ?_ ?_
 ·intro g w i J _ q;simp only[aG]at q;simp only[fD];simp only[q]
  go_wp2_with (go_at_call 109;refine(aZ.out _ J.below).mono ?_;rintro e aV ⟨ad,av,aM,rfl,al,ak,aq⟩;dsimp only);exact⟨rfl,_,rfl,aq,_,_,_,rfl,al,ak.mono i.size⟩
 refine qdv ?_;refine qy J ?_;intro g af i T q;simp only[aG]at q;have az:(yi o.heap.size r.vars.n s.vars) (g 8) af:=qye T 2;obtain⟨a9,ay,ah,az,ao,aQ⟩:=az;have I:(Xc o.heap.size r.lines.n s.lines) (g 11) af:=qye T 5;obtain⟨a8,ax,ag,I,an,aP⟩:=I;have aj:=J.gainTail i (aQ.apart aP ao.types an.types (by decide));clear aQ aP;clear T;simp only[fD];simp only[q,az,I];clear q az I;replace J:=J.grow i;clear i;replace J:=aj;clear aj;simp only[aX]at J;have bd:=za (And.intro ao an);clear ao an;go_wp2_with (with_reducible first|refine lld J ?_|(refine zc J ?_;clear J;intro ae J));go_loopw [3,17] (fun av bm wr=>∃ (k:Nat) (ad:Option Addr) (aw:Nat) (au:List Th) (ab P:List zg),k<=r.things.n∧av=.slice ad k aw∧bm=.int .i64 k∧zB 79 2 ad k aw (Ge au) ab∧yh au (s.things.take k) P∧Loc w wr ((aC,46,[.int .i64 0,.slice none 0 0,.slice none 0 0,.int .i64 0,.slice none 0 0,.int .i64 0])::(aB,46,[.int .i64 r.at',.slice a9 r.vars.n ay,.slice r.things.p r.things.n r.things.cap,.int .i64 r.taken,.slice a8 r.lines.n ax,.int .i64 r.ending])::(ah++(ag++(P++ab)))) []) (fun _ c _=>r.things.n - (intOf c).toNat)
 case atStart=>exact⟨0,none,0,[],[],[],Nat.zero_le _,rfl,rfl,zB.nil,.nil,by simpa using J⟩
 case round=>
  obtain⟨k,ad,aw,au,ab,P,aS,rfl,rfl,a2,ai,J⟩:=hrel;have aA:=za (And.intro a2 ai);clear a2 ai;by_cases aF:k<r.things.n
  ·have aL:=za (bb.out (by omega))
   have bc:=za (show zd prog 79 w bk (b6+k*2) (.agg #[.int .i64 (ths k).site,.slice (ths k).fs.p (ths k).fs.n (ths k).fs.cap]) from zd.agg GW (aK.out k aF).1 (aK.out k aF).2 rfl);have aY:=za (aW.out k aF);have ac:=be.out k (by have:=aa.out.2.2.2.2.2.1;omega);have bf:=za ac;clear ac;go_upto_region 5 with(fail)
   go_step;simp only[aL.out];go_upto_region 6 with(first|((with_reducible refine lal J ?_);clear J;intro aD ae J)|(refine zc J ?_;clear J;intro ae J)|refine zL bc.out J rfl rfl ?_)
   obtain⟨aN,b2⟩:∃ x,x=aD:=⟨_,rfl⟩;subst b2;obtain⟨o,aI⟩:∃ x,x=ae:=⟨_,rfl⟩;subst aI;refine zb [21,22,23,24,25,26,27,28] ?_
   iterate 5 refine qdv ?_
   refine qdn (yi o.heap.size (ths k).fs.n (s.thing k).2) yi.stable J ?_ ?_
   ·intro g w i J _ q;simp only[aG]at q;simp only[fD];simp only[q]
    go_wp2_with (go_at_call 108;refine(aY.out _ J.below).mono ?_;rintro e aV ⟨ad,av,aM,rfl,al,ak,aq⟩;dsimp only);exact⟨rfl,_,rfl,aq,_,_,_,rfl,al,ak.mono i.size⟩
   refine qdn (y3 o.heap.size (ths k).fs.n (ths k).site (s.thing k).2) y3.stable J ?_ ?_
   ·intro g w i J y q;simp only[aG]at q;have d5:(yi o.heap.size (ths k).fs.n (s.thing k).2) (g 26) w:=yr y 5;obtain⟨b8,bn,bh,d5,bx,bu⟩:=d5;clear y;simp only[fD];simp only[q,d5]
    go_wp2_with (fail);exact⟨rfl,_,rfl,Below.refl _ _,_,_,_,rfl,bx,bu⟩
   refine qdn (ZU o.heap.size (ths k).fs.n (ths k).site (s.thing k).2) ZU.stable J ?_ ?_
   ·intro g w i J y q;have d6:(y3 o.heap.size (ths k).fs.n (ths k).site (s.thing k).2) (g 27) w:=yr y 6;obtain⟨b9,bo,bi,d6,bz,bv⟩:=d6;clear y;simp only[fD];simp only[d6]
    go_wp2_with (fail);exact⟨rfl,_,rfl,(Below.refl _ _).alloc (Nat.le_refl _) _,_,_,_,_,rfl,bz,bv.grow ((Below.refl _ _).alloc (Nat.le_refl _) _),jo _ _⟩
   refine qy J ?_;intro g af i T q;simp only[aG]at q;have I:(yi o.heap.size (ths k).fs.n (s.thing k).2) (g 26) af:=qye T 5;obtain⟨b8,bn,bh,I,-,-⟩:=I;have a0:(y3 o.heap.size (ths k).fs.n (ths k).site (s.thing k).2) (g 27) af:=qye T 6;obtain⟨b9,bo,bi,a0,-,-⟩:=a0;have a1:(ZU o.heap.size (ths k).fs.n (ths k).site (s.thing k).2) (g 28) af:=qye T 7;obtain⟨aJ,aE,Rn,bl,a1,b0,aO,bt⟩:=a1;have aj:=J.gainMid (K:=(aN,79,[.int .i64 (ths k).site,.slice (ths k).fs.p (ths k).fs.n (ths k).fs.cap])::(aC,46,[.int .i64 0,.slice none 0 0,.slice none 0 0,.int .i64 0,.slice none 0 0,.int .i64 0])::(aB,46,[.int .i64 r.at',.slice a9 r.vars.n ay,.slice r.things.p r.things.n r.things.cap,.int .i64 r.taken,.slice a8 r.lines.n ax,.int .i64 r.ending])::(ah++(ag++P))) (R:=ab) (by simp only[List.cons_append,List.append_assoc]) i aO;clear aO;clear T;simp only[fD];simp only[q,I,a0,a1];clear q I a0 a1;replace J:=J.grow i;clear i;replace J:=aj;clear aj;go_wp2_with (first|fail|(refine zF (K:=(aN,79,[.int .i64 (ths k).site,.slice (ths k).fs.p (ths k).fs.n (ths k).fs.cap])::(aC,46,[.int .i64 0,.slice none 0 0,.slice none 0 0,.int .i64 0,.slice none 0 0,.int .i64 0])::(aB,46,[.int .i64 r.at',.slice a9 r.vars.n ay,.slice r.things.p r.things.n r.things.cap,.int .i64 r.taken,.slice a8 r.lines.n ax,.int .i64 r.ending])::(ah++(ag++(P++Rn)))) (R:=ab) (news:=[.int .i64 (ths k).site,.slice aJ (ths k).fs.n aE]) aA.out.1 J (by simp only[List.cons_append,List.append_assoc]) rfl rfl GX zcF (by decide) rfl (fun _=>⟨⟨bl,0,none⟩,rfl,fun j u b3=>by rw[zG,Nat.zero_add];exact zP bt j b3⟩) rfl (by simp[Value.oneCell']) (by have:=aa.out.1.t;have:=aa.out.2.2.2.2.2.1;have:=ba.out;omega) (by have:=aa.out.1.t;have:=aa.out.2.2.2.2.2.1;omega) ?_;clear J;intro b7 bp bj bB bw J;simp only[List.cons_append,List.append_assoc]at J));simp only[<- aL.out];go_roundw
   case rel=>
    refine⟨k+1,b7,bp,au++[⟨(ths k).site,⟨aJ,(ths k).fs.n,aE⟩⟩],bj,P++Rn,by omega,rfl,by go_num,by simpa [Ge] using bw,?_,?_⟩
    ·have bq:=yh.snoc (t:=⟨(ths k).site,⟨aJ,(ths k).fs.n,aE⟩⟩) aA.out.2 b0
     have br:s.things.take (k+1)=s.things.take k++[((ths k).site,(s.thing k).2)]:=by
      have b4 : k<s.things.length:=by have:=aa.out.2.2.2.2.2.1;omega
      have bs:s.things[k]? = some (s.thing k):=by simp[Rs.thing,List.getD_eq_getElem?_getD,b4]
      rw[List.take_add_one,bf.out.1,bs];rfl
     rw[br];exact bq
    ·have:=J.drop (List.sublist_cons_self _ _) (fun _ h=>h)
     simpa only[List.append_assoc] using this
   case measure=>simp[intOf];omega
  ·obtain rfl:k=r.things.n:=by omega
   go_wp2_with (with_reducible first|refine lld J ?_|(refine zc J ?_;clear J;intro ae J));refine rt1 ?_;obtain⟨a2,ai⟩:=aA.out;obtain⟨ao,an⟩:=bd.out;obtain⟨_,a3,a6,a4,a7,aH,a5⟩:=aa.out;rw[List.take_of_length_le (by omega)]at ai;refine⟨⟨r.at',⟨a9,r.vars.n,ay⟩,⟨ad,r.things.n,aw⟩,r.taken,⟨a8,r.lines.n,ax⟩,r.ending⟩,au,ah,ab,ag,P,rfl,⟨ao,a2,an,ai,a3,a6,a4⟩,?_,J.below⟩;refine(J.ownOf ((List.sublist_cons_self _ _).trans (List.sublist_cons_self _ _))).perm (List.Perm.append_left ah ?_);rw[<- List.append_assoc ag P ab];exact List.perm_append_comm
end Go.Proofs.YtplcndmdkabmeaaGreatDoor
