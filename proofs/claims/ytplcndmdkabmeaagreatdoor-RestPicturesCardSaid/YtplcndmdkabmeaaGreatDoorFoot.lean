/- Memory that is spoiled, and the walk over the law's spoil. Conditions: the picture's guesses and sites lie in blocks from B on, and are not frozen. | Operations and regions within a fence that lets all by, in a round of a range over a function or not: what is shown of operations as everywhere holds there too. Over any program. Conditions: no operation puts a call off. | A range over a function whose rounds write memory that the iterator reads: one law. Over any program. Conditions: the rounds leave what has come since the loop began as it is. | What a picture's reading hangs on: blocks of cells alone. Plain, of any world. Conditions: none. -/
import Derived.Test.YtplcndmdkabmeaaGreatDoorStpc
import Derived.Test.YtplcndmdkabmeaaGreatDoorLib
import Derived.RangeFuncNested
import Derived.OrdersIn
import Derived.TacticsIn
import Derived.RangeFuncBound
import Derived.RangeFuncCalls
import Derived.RangeFuncLeaves
import Derived.Test.YtplcndmdkabmeaaGreatDoorPica
set_option linter.unusedSimpArgs false
set_option linter.unusedVariables false
set_option maxRecDepth 100000
namespace Go.Proofs.YtplcndmdkabmeaaGreatDoor
open Go.Proofs.Tryz
open Go.RowKit
inductive jL:Value->Value->Prop where
 | same (v:Value):jL v v
 | int {k:IntKind} {a b:Int}:jL (.int k a) (.int k b)
 | bool {a b:Bool}:jL (.bool a) (.bool b)
 | str {a b:ByteArray}:jL (.string a) (.string b)
theorem jL.trans {u v x:Value}(h:jL u v) (i : jL v x):jL u x:=by
 cases h with
 | same=>exact i
 | int=>cases i with
  | same=>exact .int
  | int=>exact .int
 | bool=>cases i with
  | same=>exact .bool
  | bool=>exact .bool
 | str=>cases i with
  | same=>exact .str
  | str=>exact .str
theorem jL.slice {p:Option Addr}{n c:Nat}{v:Value}(h:jL (.slice p n c) v):v=.slice p n c:=by cases h;rfl
theorem jL.ofInt {k:IntKind}{a:Int}{v:Value}(h:jL (.int k a) v):∃ b,v=.int k b:=by
 cases h with
 | same=>exact⟨_,rfl⟩
 | int=>exact⟨_,rfl⟩
theorem jL.ofBool {a:Bool}{v:Value}(h:jL (.bool a) v):∃ b,v=.bool b:=by
 cases h with
 | same=>exact⟨_,rfl⟩
 | bool=>exact⟨_,rfl⟩
structure jq (B:Nat) (w w' : World):Prop where
 below:Below B w w'
 cell:∀ b o v,w.cell? ⟨b,o,none⟩=some v->∃ v',w'.cell? ⟨b,o,none⟩=some v'∧jL v v'
 fz:∀ b o,b<w.heap.size->w'.frozen? ⟨b,o,none⟩=w.frozen? ⟨b,o,none⟩
theorem qS {w:World}{b o:Nat}{v:Value}(h:w.cell? ⟨b,o,none⟩=some v):b<w.heap.size:=by
 rcases Nat.lt_or_ge b w.heap.size with i|i
 ·exact i
 ·simp[World.cell?,Array.getElem?_eq_none i]at h
theorem jq.refl (B:Nat) (w:World):jq B w w:=⟨Below.refl _ _,fun b i v h=>⟨v,h,.same v⟩,fun _ _ _=>rfl⟩
theorem jq.trans {B:Nat}{w p t:World}(h:jq B w p) (j : jq B p t):jq B w t:=by
 refine⟨h.below.trans j.below,fun b i v U=>?_,fun b i o=>(j.fz b i (Nat.lt_of_lt_of_le o h.below.size)).trans (h.fz b i o)⟩;obtain⟨v1,R,C⟩:=h.cell b i v U;obtain⟨aa,T,I⟩:=j.cell b i v1 R;exact⟨aa,T,C.trans I⟩
theorem jq.of {B:Nat}{w w' : World}(hb:Below w.heap.size w w') (o:B<=w.heap.size):jq B w w':=
 ⟨hb.mono o,fun b i v j=>⟨v,(hb.cell (p:=⟨b,i,none⟩) (qS j)).trans j,.same v⟩,fun b i h=>hb.frozen (p:=⟨b,i,none⟩) h⟩
theorem jq.set {B:Nat}{w:World}{b o:Nat}{u v:Value}(hc:w.cell? ⟨b,o,none⟩=some u) (I:B<=b) (hk:jL u v):jq B w (w.setCell ⟨b,o,none⟩ v):=by
 refine⟨(Below.refl B w).setCell (p:=⟨b,o,none⟩) I v,fun t C j i=>?_,fun t C _=>World.frozen?_setCell _ _ _ _⟩;by_cases e:(⟨b,o,none⟩:Addr)=⟨t,C,none⟩
 ·rw[<- e]at i ⊢
  obtain rfl:u=j:=Option.some.inj (hc.symm.trans i);exact⟨v,World.cell?_setCell_same _ _ _ hc,hk⟩
 ·exact⟨j,(World.cell?_setCell_other _ _ _ _ e).trans i,.same j⟩
structure SpI (B:Nat) (t:Sl) (w:World):Prop where
 m:t.n<=9223372036854775807
 ex:∃ b o:Nat,(0<t.n->t.p=some ⟨b,o,none⟩∧B<=b)∧∀ j,j<t.n->w.frozen? ⟨b,o+j,none⟩=false∧∃ z,w.cell? ⟨b,o+j,none⟩=some (.int .i64 z)
theorem SpI.like {B:Nat}{t:Sl}{w w' : World}(h:SpI B t w) (i:jq B w w'):SpI B t w':=by
 obtain⟨b,o,h1,p⟩:=h.ex;refine⟨h.m,b,o,h1,fun U I=>?_⟩;obtain⟨C,z,j⟩:=p U I;obtain⟨v,T,R⟩:=i.cell _ _ _ j;obtain⟨ab,rfl⟩:=R.ofInt;exact⟨(i.fz _ _ (qS j)).trans C,ab,T⟩
structure SpG (B:Nat) (s:Sl) (w:World):Prop where
 m:s.n<=9223372036854775807
 ex:∃ b o:Nat,(0<s.n->s.p=some ⟨b,o,none⟩∧B<=b)∧∀ k,k<s.n->(w.frozen? ⟨b,o+k*7,none⟩=false∧∃ z,w.cell? ⟨b,o+k*7,none⟩=some (.bool z))∧∃ t:Sl,w.cell? ⟨b,o+k*7+6,none⟩=some (.slice t.p t.n t.cap)∧SpI B t w
theorem SpG.like {B:Nat}{s:Sl}{w w' : World}(h:SpG B s w) (i:jq B w w'):SpG B s w':=by
 obtain⟨b,o,h1,p⟩:=h.ex;refine⟨h.m,b,o,h1,fun k T=>?_⟩;obtain⟨⟨I,z,j⟩,t,U,R⟩:=p k T;obtain⟨v,ab,hc⟩:=i.cell _ _ _ j;obtain⟨ae,rfl⟩:=hc.ofBool;obtain⟨u,aa,C⟩:=i.cell _ _ _ U;obtain rfl:=C.slice;exact⟨⟨(i.fz _ _ (qS j)).trans I,ae,ab⟩,t,aa,R.like i⟩
structure SpR (B:Nat) (s:Sl) (w:World):Prop where
 ex:∃ b o:Nat,(0<s.n->s.p=some ⟨b,o,none⟩)∧∀ k,k<s.n->∃ r:Sl,w.cell? ⟨b,o+k,none⟩=some (.slice r.p r.n r.cap)∧SpG B r w
theorem SpR.like {B:Nat}{s:Sl}{w w' : World}(h:SpR B s w) (i:jq B w w'):SpR B s w':=by
 obtain⟨b,T,j,o⟩:=h.ex;refine⟨b,T,j,fun k C=>?_⟩;obtain⟨r,I,t⟩:=o k C;obtain⟨u,R,p⟩:=i.cell _ _ _ I;obtain rfl:=p.slice;exact⟨r,R,t.like i⟩
structure SpP (B:Nat) (x:Pv) (w:World):Prop where
 v:SpG B x.vars w
 f:SpR B x.fields w
 m:x.fields.n<=1000
theorem SpP.like {B:Nat}{x:Pv}{w w' : World}(h:SpP B x w) (i:jq B w w'):SpP B x w':=⟨h.v.like i,h.f.like i,h.m⟩
section
variable {P : Program} {ops : Array Oper} {Q : Exit -> Act -> World -> Prop} {rest : List Oper} {a : Act} {w : World} {d : Option Tmp} {ty : TypeId} {pos : String} {after : Array Edge} {g : Option (Nat × Bool)}
theorem K8 {x y:Operand}{T:TypeId}{b off:Nat}{u v:Value}(I:Region.wanted ⟨d,.store T x y,ty,pos,after,g⟩ (yielded ops a.tmps)=true) (R:a.eval x=.pointer (some ⟨b,off,none⟩)) (i:a.eval y=v) (j:v.oneCell'=true) (hv:v.cells.toList=[v]) (hT:Y9 P T 1)
  (hc:w.cell? ⟨b,off,none⟩=some u) (hf:w.frozen? ⟨b,off,none⟩=false) (h:wpList P ops Q rest (a.put d undef) (w.setCell ⟨b,off,none⟩ v)):wpList P ops Q (⟨d,.store T x y,ty,pos,after,g⟩::rest) a w:=by
 refine Jm (o:=⟨d,.store T x y,ty,pos,after,g⟩) (w':=w.setCell ⟨b,off,none⟩ v) I ?_ h;have C:(a.eval y).cells.size=1:=by rw[i,<- Array.length_toList,hv];rfl
 have p:(a.eval y).cells.toList=[v]:=by rw[i];exact hv
 have t:(storeCells ⟨b,off,none⟩ [v] 0).run P w=.ok () (w.setCell ⟨b,off,none⟩ v):=by
  rw[storeCells,Sem.run_bind,zG,run_store P w _ v .plain j,Nat.add_zero,hc];simp[hf,storeCells]
 simp[execOp,Instr.storeAt,R,Instr.sureAddr,storeVar,C,qH hT.size,p,t]
end
abbrev inR (r:Option Nat):Fence:={ Fence.wide with round:=r }
section
variable {P : Program} {r : Option Nat} {n : Nat} {K : Act -> World -> Prop} {Q : Exit -> Act -> World -> Prop} {a : Act} {w : World}
theorem zfm {f:FuncId}{args:Array Value}{R:Ending->World->Prop}(h:Calls P f args w R):CallsIn (inR r) n P f args w R:=
 (callsIn_wide.2 h:CallsIn Fence.wide n P f args w R)
theorem zgO {row:String}{args:Array Value}{R:Value->World->Prop}(h:Rows P row args w R):RowsIn (inR r) n P row args w R:=fun c g _=>by
 obtain⟨v,o,i,j⟩:=h c g;exact⟨v,o,i,(stepsIn_wide.2 j:StepsIn (Machine.fenced P Fence.wide) P _ _)⟩
theorem VD {m:Nat}:(inR r).depth.isSome=true->1<=m:=fun h=>by cases h
theorem zgP {o:Oper}{x:Result Next}(h:o.upon P a K Q x):o.uponIn (inR r) n P a K Q x:=by
 cases x with
 | ok y w'=>
  cases y
  case enter f args=>exact⟨VD,zfm (Calls.mono h fun e i g=>by cases e<;>exact g)⟩
  case row s args=>exact⟨VD,zgO h⟩
  all_goals first|exact h|exact absurd h (by simp[Oper.upon])
 | halt y w'=>cases y<;>first|exact h|exact absurd h (by simp[Oper.upon])
def Q7 (o:Oper):Bool:=match o.op with
 | .defer _=>true
 | _=>false
theorem zfn {o:Oper}(h:Q7 o=false):∀ c,o.op≠.defer c:=fun c e=>by
 unfold Q7 at h;rw[e]at h;cases h
theorem ziI {o:Oper}(g:Q7 o=false) (h:o.wp P a w K Q):o.wpIn (inR r) n P a w K Q:=by
 refine⟨fun _ _=>trivial,?_⟩;have e:o.semAt (inR r).round a.eval=execOp a.eval o:=Oper.semAt_eq r _ o (zfn g);rw[e];exact zgP h
theorem VE {ops:Array Oper}(o:ops.toList.all (fun g=>!Q7 g)=true) (j:¬ LetsOut Q):∀ (l:List Nat) (a:Act) (w:World),wpOps P ops Q l a w->wpOpsIn (inR r) n P ops Q l a w
 | [],_,_,h=>h
 | i::rest,a,w,h=>by
  unfold wpOps at h;unfold wpOpsIn;cases p:ops[i]? with
  | none=>
   simp only[p]at h ⊢;exact VE o j rest a w h
  | some g=>
   simp only[p]at h ⊢;have T:Q7 g=false:=by
    have:=List.all_eq_true.1 o g (by
     obtain⟨I,R⟩:=Array.getElem?_eq_some_iff.1 p;rw[<- R];exact Array.getElem_mem_toList I)
    simpa using this
   by_cases C:Region.wanted g (yielded ops a.tmps)=true
   ·rw[if_pos C]at h ⊢
    rcases h with h|h
    ·exact Oper.wpIn_mono (fun a w h=>VE o j rest a w h) (ziI T h)
    ·exact absurd h.2 j
   ·rw[if_neg C]at h ⊢
    exact⟨fun _ _=>trivial,VE o j rest _ w h⟩
theorem je {id:Nat}{l:List Oper}(i:l.all (fun j=>!Q7 j)=true) (g:¬ LetsOut Q) (h:wpList P l.toArray Q l a w):(Code.region id l.toArray false).wpIn (inR r) n P Q a w:=by
 refine wpIn_region (VE (by simpa using i) g _ _ _ ?_);rw[List.range_eq_range',<- Array.length_toList,wpOps_eq_wpList l.toArray.toList 0 (by simp)];exact h
def Qw (P:Program) (ops:Array Oper) (Q:Exit->Act->World->Prop) (a:Act) (w:World):Prop:=∀ t,wpOps P ops Q (Region.schedule (P.follows .mixedOrders) ops t) a { w with drawn:=w.drawn+1 }
theorem GG {id:Nat}{ops:Array Oper}(i:ops.toList.all (fun j=>!Q7 j)=true) (g:¬ LetsOut Q) (h:Qw P ops Q a w):(Code.region id ops true).wpIn (inR r) n P Q a w:=
 wpIn_region_draw fun t=>VE i g _ _ _ (h t)
end
section
variable {P : Program} {ops : Array Oper} {Q : Exit -> Act -> World -> Prop} {t : List Value} {df : List Deferred} {ds : List Nat} {w1 : World} {Rs : List (Value -> World -> Prop)}
theorem zfo {L:List zg}{D:List zl}{w0:World}(aa:P.follows .mixedOrders=true) (J:Loc w0 w1 L D) (j:Region.drawB ops ds=true) (U:Rs.length=ds.length) (C:Jo P ops t df ds w1 Rs)
  (I:∀ p w,Below w1.heap.size w1 w->(∀ i,i<ds.length->RAt Rs ds i p w)->wpList P ops Q (ops.toList.drop ds.length) ⟨(zv t ds p).toArray,df⟩ w):Qw P ops Q ⟨t.toArray,df⟩ w1:=by
 intro ab;simp only[Region.schedule,aa,Bool.true_or,if_true];refine wpAny_sound ops.size ab _ _ _ ?_;have ac:ds.length<=ops.size:=by
  simp only[Region.drawB,Bool.and_eq_true,Bool.or_eq_true,decide_eq_true_eq]at j;rcases j.2 with h|h<;>omega
 have h:=XB (Q:=Q) j U C I ds.length (Array.replicate ops.size false) (fun d=>t.getD d undef) w1.drew
  ⟨by simp,fun i ad _ g=>(by rw[getD_replicate_false]at g;cases g),fun k _ T=>(by simp[T])⟩
  (by
   have:((List.range ds.length).filter fun o=>!(Array.replicate ops.size false).getD o true)=List.range ds.length:=by
    rw[List.filter_eq_self];intro o R;have:o<ops.size:=by have:=List.mem_range.1 R;omega
    simp[this]
   rw[this];simp)
  ((Below.refl _ _).drew) (fun i _ g=>(by rw[getD_replicate_false]at g;cases g)) (fun _ _ _ _=>rfl)
 rw[yb,show ds.length+(ops.size - ds.length)=ops.size by omega]at h;exact h
theorem jB {l:List Oper}(ds:List Nat) (h:zw P l.toArray (Qw P l.toArray Q ⟨t.toArray,df⟩ w1) t df ds w1 [] l ds):Qw P l.toArray Q ⟨t.toArray,df⟩ w1:=h rfl rfl Jo.nil
theorem zd9 {os:List Oper}{L:List zg}{D:List zl}{w0:World}(J:Loc w0 w1 L D) (ac:P.follows .mixedOrders=true) (C:Region.drawB ops ds=true)
  (T:∀ g w,Below w1.heap.size w1 w->j7 Rs ds g w (List.range Rs.length)->wpList P ops Q os ⟨(zv t ds g).toArray,df⟩ w):zw P ops (Qw P ops Q ⟨t.toArray,df⟩ w1) t df ds w1 Rs os []:=
 fun o p hD=>by
  have ab:Rs.length<=ds.length:=hD.short;have U:ds.length<=Rs.length:=List.drop_eq_nil_iff.1 p;have i:Rs.length=ds.length:=Nat.le_antisymm ab U;exact zfo ac J C i hD (fun g w R I=>by
   rw[<- i,o];exact T g w R (Jp fun j aa=>I j (by rw[<- i];exact List.mem_range.1 aa)))
theorem Kt {os:List Oper}{L:List zg}{D:List zl}{w0:World}{j:List (Nat × Value)}(J:Loc w0 w1 L D) (h:∀ g w,Below w1.heap.size w1 w->zan Rs ds g w->y8 g j->wpList P ops Q os ⟨(zv t ds g).toArray,df⟩ w) (I:KnE Rs ds j:=by exact cKe) (C:P.follows .mixedOrders=true:=by kernel_rfl) (o:Region.drawB ops ds=true:=by kernel_rfl):zw P ops (Qw P ops Q ⟨t.toArray,df⟩ w1) t df ds w1 Rs os []:=
 zd9 J C o (fun g w p i=>h g w p (Qj i) (I.all (Qj i)))
end
structure Q8 (B:Nat) (W W' : World):Prop where
 size:W.heap.size<=W'.heap.size
 same:∀ b,B<=b->b<W.heap.size->W'.heap[b]? = W.heap[b]?
theorem Q8.refl (B:Nat) (W:World):Q8 B W W:=⟨Nat.le_refl _,fun _ _ _=>rfl⟩
theorem Q8.trans {B:Nat}{W g i:World}(h:Q8 B W g) (j : Q8 B g i):Q8 B W i:=
 ⟨Nat.le_trans h.size j.size,fun b o p=>(j.same b o (Nat.lt_of_lt_of_le p h.size)).trans (h.same b o p)⟩
theorem Q8.of {B:Nat}{W g : World}(h:Below W.heap.size W g):Q8 B W g:=⟨h.size,fun _ _ i=>h.block _ i⟩
structure K9 (B:Nat) (S:World->Prop):Prop where
 grow:∀ W W',Below W.heap.size W W'->S W->S W'
 turn:∀ W r r',W.heap[B+1]? = some (.loop r)->S W->S (W.putObj (B+1) (.loop r'))
def zh5 {σ:Type}(g:σ->World->Prop) (i:World->Prop) (B:Nat) (s:σ) (W:World):Exit->Act->World->Prop
 | .normal,_,W'=>g s W'∧Q8 B W W'
 | .ret,_,W'=>i W'∧Q8 B W W'
 | .exit _,_,_=>False
 | .goto _,_,_=>False
 | .panic _,_,_=>False
 | .outgrown,_,_=>False
def zc9 (P:Program) (n:Nat) (gf:Nat) (fb lb:Array Value) {σ X:Type}(encs:X->Array Value) (Need:σ->World->Prop) (G:σ->X->World->Prop) (next:σ->X->σ) (fin:σ->σ) (B:Nat):Prop:=
 ∀ (l:Nat) (i:σ->World->Prop) (j:World->Prop) (s:σ) (W:World),(∀ s W,i s W->Need s W)->(∀ s W g,Below W.heap.size W g->i s W->i s g)->
  (∀ s x W,i s W->G s x W->YieldAt (inR none) (n - 1) P l (encs x) W fun e g=>(e=.returned (.bool true)∧i (next s x) g∧Q8 B W g)∨(e=.returned (.bool false)∧j g))->
  B<=W.heap.size->i s W->CallsIn (inR none) n P gf (fb++#[.func (.yield l) #[] #[]]++lb) W fun e g=>(∃ v,e=.returned v)∧(i (fin s) g∨j g)
section
variable {P : Program} {w : World}
theorem VF {g:Operand}{aq:Array Tmp}{assign body:Code}{Q:Exit->Act->World->Prop}{a:Act}{n gf:Nat}{fb lb:Array Value}{σ X:Type}{encs:X->Array Value}
  {Need:σ->World->Prop} {G:σ->X->World->Prop} {next:σ->X->σ} {fin:σ->σ}
  (aP:a.eval g=.func (.func gf) fb lb) (a6:∀ args w,(callFunc gf args).run P w=.ok (.enter gf args) w) (aV:∀ x,(encs x).size=aq.size)
  (aQ:zc9 P (n - 1) gf fb lb encs Need G next fin w.heap.size)
  (C:σ->World->Prop) (al:World->Prop) (ad:∀ s,K9 w.heap.size (C s)) (a0:K9 w.heap.size al) (aI:∀ s W,C s W->Need s W) (az:∀ s x,K9 w.heap.size (G s x))
  (s:σ) (a7:C s w) (ak:X->Act->World->Prop) (aB:∀ x a',K9 w.heap.size (ak x a'))
  (aJ:∀ (l:Nat) (s:σ) (x:X) (W:World) (K:Act->World->Prop),C s W->G s x W->(∀ a' an,Below W.heap.size W an->ak x a' an->K a' an)->
   assign.wpIn (inR (some l)) (n - 1 - 1) P (Exit.then K (fun _ _ _=>False)) { tmps:=(aq.zip (encs x)).foldl (fun t (p,v)=>t.setIfInBounds p v) a.tmps,defers:=[] } W)
  (aM:∀ (l:Nat) (s:σ) (x:X) (a' : Act) (W:World),w.heap.size+2<=W.heap.size->C s W->G s x W->ak x a' W->body.wpIn (inR (some l)) (n - 1 - 1) P (zh5 C al w.heap.size (next s x) W) a' W)
  (aN:∀ (D:Nat) (W:World),w.heap.size<=D->C (fin s) W->W.heap[D]? = some (.deferred (some []))->Q .normal { a with defers:={ target:=.collected D,args:=#[] }::a.defers } W)
  (aW:∀ (D:Nat) (W:World),w.heap.size<=D->al W->W.heap[D]? = some (.deferred (some []))->Q .ret { a with defers:={ target:=.collected D,args:=#[] }::a.defers } W):
  (Code.rangeFunc g aq assign body).wpIn (inR none) n P Q a w:=by
 refine wpIn_rangeFunc ?_;intro fn aO;obtain⟨i,R⟩:∃ i:LoopState->Option Code->Loop,i=fun ba aZ=>{ state:=ba,pending:=aZ,fn,tmps:=a.tmps,params:=aq,assign,body,defers:=w.heap.size }:=⟨_,rfl⟩
 obtain⟨W1,ag⟩:∃ W1,(w.alloc (.deferred (some []))).alloc (.loop (i .ready none))=W1:=⟨_,rfl⟩;have aH:W1.heap[w.heap.size+1]? = some (.loop (i .ready none)):=by
  rw[<- ag];have:=World.alloc_heap_new (w.alloc (.deferred (some []))) (.loop (i .ready none));rwa [World.size_alloc]at this
 have aF:W1.heap[w.heap.size]? = some (.deferred (some [])):=by
  rw[<- ag];exact(Below.heap_alloc _ _ _ (by simp)).trans (World.alloc_heap_new w _)
 have aL:Below w.heap.size w W1:=by
  rw[<- ag];exact(((Below.refl _ w).alloc (Nat.le_refl _) _).alloc (by simp) _)
 have aD:C s W1:=(ad s).grow _ _ aL a7;have bf:w.heap.size+2<=W1.heap.size:=by rw[<- ag];simp
 refine⟨w.heap.size+1,[{ target:=.collected w.heap.size,args:=#[] }],W1,{ target:=.fn (.func gf) lb,args:=fb++#[.func (.yield (w.heap.size+1)) #[] #[]] },W1,gf,
  fb++#[.func (.yield (w.heap.size+1)) #[] #[]]++lb,W1,?_,?_,fun _ _=>trivial,?_,VD,?_⟩
 ·rw[<- ag,R];exact run_enterLoop_outer _ _ _ _ _
 ·simp only[resolve,aP]
  simp[go_sem]
 ·simp[invoke,go_sem,a6]
 ·refine(aQ (w.heap.size+1)
   (fun s W=>C s W∧W.heap[w.heap.size+1]? = some (.loop (i .ready none))∧W.heap[w.heap.size]? = some (.deferred (some [])))
   (fun W=>al W∧W.heap[w.heap.size+1]? = some (.loop (i .done (some .ret)))∧W.heap[w.heap.size]? = some (.deferred (some []))) s
   W1 (fun s W h=>aI s W h.1) (fun s W an ah h=>⟨(ad s).grow _ _ ah h.1,by rw[ah.block _ (zz h.2.1)];exact h.2.1,by rw[ah.block _ (zz h.2.2)];exact h.2.2⟩) ?_ (by omega) ⟨aD,aH,aF⟩).mono ?_
  · -- one round
   rintro s x W ⟨ae,I,ai⟩ a1;have aS:w.heap.size+1<W.heap.size:=zz I;have ax:=run_yield (P:=P) (args:=encs x) I (by rw[R];exact aV x);rw[R]at ax;refine⟨fn,_,assign,body,ax,roundIn_of_wpIn aO (aJ _ s x W _ ae a1 ?_)⟩;clear ax;intro a' T ac aK;have aj:T.heap[w.heap.size+1]? = some (.loop (i .ready none)):=by rw[ac.block _ aS];exact I
   have aR:T.heap[w.heap.size]? = some (.deferred (some [])):=by rw[ac.block _ (by omega)];exact ai
   have aT:w.heap.size+1<T.heap.size:=zz aj;refine⟨_,run_beginRound aj (by rw[R]),?_⟩;have a3:(T.putObj (w.heap.size+1) (.loop { i .ready none with state:=.busy })).heap[w.heap.size+1]? = some (.loop { i .ready none with state:=.busy }):=World.putObj_heap_same aT;have a2:(T.putObj (w.heap.size+1) (.loop { i .ready none with state:=.busy })).heap[w.heap.size]? = some (.deferred (some [])):=(World.putObj_heap_other (by omega)).trans aR;obtain⟨U,hWb⟩:∃ U,T.putObj (w.heap.size+1) (.loop { i .ready none with state:=.busy })=U:=⟨_,rfl⟩;have bg:U.heap.size=T.heap.size:=by rw[<- hWb];simp[World.putObj]
   have aU:∀ b,b≠w.heap.size+1->U.heap[b]? = T.heap[b]? :=fun b ah=>by rw[<- hWb];exact World.putObj_heap_other ah
   have aE:C s U:=by rw[<- hWb];exact(ad s).turn _ _ _ aj ((ad s).grow _ _ ac ae)
   have aC:G s x U:=by rw[<- hWb];exact(az s x).turn _ _ _ aj ((az s x).grow _ _ ac a1)
   have aA:ak x a' U:=by rw[<- hWb];exact(aB x a').turn _ _ _ aj aK
   rw[hWb]at a3 a2;rw[hWb];refine wpIn_mono (aM _ s x a' _ (by omega) aE aC aA) ?_;have fin:∀ (jump:Option Code) (j:World),Q8 w.heap.size U j->
     (Instr.endRound (w.heap.size+1) jump).run P j=.ok (.bool jump.isNone) (j.putObj (w.heap.size+1) (.loop (i (if jump.isNone then .ready else .done) jump)))∧
     j.heap[w.heap.size+1]? = some (.loop { i .ready none with state:=.busy })∧
     (j.putObj (w.heap.size+1) (.loop (i (if jump.isNone then .ready else .done) jump))).heap[w.heap.size+1]? = some (.loop (i (if jump.isNone then .ready else .done) jump))∧
     (j.putObj (w.heap.size+1) (.loop (i (if jump.isNone then .ready else .done) jump))).heap[w.heap.size]? = some (.deferred (some [])):=fun jump j aa=>by
    have ab:=(aa.same _ (by omega) (by omega)).trans a3;have ay:=run_endRound (P:=P) jump ab;rw[R]at ay ⊢;exact⟨ay,by rw[R]at ab;exact ab,World.putObj_heap_same (zz ab),(World.putObj_heap_other (by omega)).trans ((aa.same _ (Nat.le_refl _) (by omega)).trans a2)⟩
   rintro e bc j af;cases e with
   | normal=>
    obtain⟨au,aa⟩:=af;obtain⟨aw,ab,ao,av⟩:=fin none j aa;refine⟨_,_,aw,.inl ⟨rfl,⟨(ad _).turn _ _ _ ab au,ao,av⟩,?_⟩⟩;refine⟨?_,fun b a8 a9=>?_⟩
    ·have bd:=aa.size
     have be:=ac.size;rw[show ∀ o,(j.putObj (w.heap.size+1) o).heap.size=j.heap.size from fun o=>by simp[World.putObj]];omega
    ·by_cases ar:b=w.heap.size+1
     ·subst ar
      exact ao.trans I.symm
     ·rw[World.putObj_heap_other ar,aa.same b a8 (by have:=ac.size;omega),aU b ar,ac.block _ a9]
   | ret=>
    obtain⟨au,aa⟩:=af;obtain⟨aw,ab,ao,av⟩:=fin (some .ret) j aa;exact⟨_,_,aw,.inr ⟨rfl,a0.turn _ _ _ ab au,ao,av⟩⟩
   | exit id=>exact af.elim
   | goto t=>exact af.elim
   | panic ch=>exact af.elim
   | outgrown=>exact af.elim
  · -- behind the iterator
   rintro e bb ⟨⟨v,rfl⟩,(⟨ae,I,ai⟩|⟨ae,I,ai⟩)⟩
   ·exact⟨none,_,by have:=run_endLoop (P:=P) I (by rw[R];simp);rw[R]at this;exact this,aN _ _ (Nat.le_refl _) ((ad _).turn _ _ _ I ae) ((World.putObj_heap_other (by omega)).trans ai)⟩
   ·exact⟨some .ret,_,by have:=run_endLoop (P:=P) I (by rw[R];simp);rw[R]at this;exact this,wpIn_ret (aW _ _ (Nat.le_refl _) (a0.turn _ _ _ I ae) ((World.putObj_heap_other (by omega)).trans ai))⟩
end
def QA (w:World) (b:Nat):World:={ w with heap:=w.heap.setIfInBounds b (.cells #[] 0 (0,0)) }
theorem yY {w:World}{b c:Nat}(h:c≠b):(QA w b).heap[c]? = w.heap[c]? :=by
 simp[QA,Array.getElem?_setIfInBounds,Ne.symm h]
theorem zaP (w:World) (b o:Nat):(QA w b).cell? ⟨b,o,none⟩=none:=by
 unfold World.cell?;show (match (w.heap.setIfInBounds b (.cells #[] 0 (0,0)))[b]? with
  | some (.cells c _ _)=>if (none:Option _).isSome then none else c[o]?
  | _=>none)=none
 rw[Array.getElem?_setIfInBounds];by_cases h:b<w.heap.size
 ·simp[h]
 ·simp[h]
theorem zaQ {w:World}{b c o:Nat}(h:c≠b):(QA w b).cell? ⟨c,o,none⟩=w.cell? ⟨c,o,none⟩:=by
 simp only[World.cell?,yY h]
def ym (w:World) (b:Nat):Prop:=∃ (i:Array Value) (g:TypeId) (f:Nat × Nat),w.heap[b]? = some (.cells i g f)
theorem VG {w:World}{b o:Nat}{v:Value}(h:w.cell? ⟨b,o,none⟩=some v):ym w b:=by
 unfold World.cell? at h;dsimp only at h;split at h
 ·rename_i c g f i;exact⟨c,g,f,i⟩
 ·cases h
theorem Ve {w:World}{b o:Nat}{v:Value}(h:w.cell? ⟨b,o,none⟩=some v):b<w.heap.size:=by
 obtain⟨_,_,_,g⟩:=VG h;exact zz g
section
variable {w w' : World} {X : Nat -> Prop}
theorem zZ.on {es:Nat}{p:Option Addr}{n:Nat}{cells:Nat->List Value}(h:zZ w es p n cells) (ai:∀ k,k<n->cells k≠[]) (R:∀ b o,0<n->p=some ⟨b,o,none⟩->X b)
  (ad:∀ b,X b->ym w b->w'.heap[b]? = w.heap[b]?):zZ w' es p n cells:=by
 obtain⟨b,o,P,U⟩:=h.ex;have ac:∀ k,k<n->ym w b:=fun k hk=>by
  cases aa:cells k with
  | nil=>exact absurd aa (ai k hk)
  | cons v l=>exact VG ((U k hk).2 0 v (by rw[aa];rfl))
 refine⟨fun t ae g i ab=>?_,b,o,P,fun k hk=>?_⟩
 ·have I:=GZ ab
  have e:=(P I).symm.trans g;simp only[Option.some.injEq,Addr.mk.injEq]at e;rw[<- h.fz t ae g i ab];simp only[World.frozen?,ad t (R t ae I g) (e.1▸ac 0 I)]
 obtain⟨an,af⟩:=U k hk;have hb:=ac k hk;have C:=ad b (R b o (by omega) (P (by omega))) hb;have g:∀ j,w'.cell? ⟨b,j,none⟩=w.cell? ⟨b,j,none⟩:=fun j=>by simp only[World.cell?,C]
 refine⟨?_,fun j v ah=>by rw[g];exact af j v ah⟩;obtain⟨al,T,f,ag⟩:=hb;rw[ag]at C;exact zz C
theorem zZ.erased {es:Nat}{p:Option Addr}{n:Nat}{cells:Nat->List Value}{b o:Nat}(h:zZ (QA w b) es p n cells) (hn:0<n) (P:p=some ⟨b,o,none⟩) (I:cells 0≠[]):False:=by
 obtain⟨t,T,R,C⟩:=h.ex;have g:=R hn;rw[P]at g;obtain⟨rfl,rfl⟩:b=t∧o=T:=by simpa using g
 cases j:cells 0 with
 | nil=>exact I j
 | cons v l=>
  have i:=(C 0 hn).2 0 v (by rw[j];rfl);rw[zaP]at i;cases i
theorem zZ.same {es:Nat}{p:Option Addr}{n:Nat}{i c2:Nat->List Value}{b:Nat}(h:zZ w es p n i) (T : zZ (QA w b) es p n c2) (hn:∀ o,p≠some ⟨b,o,none⟩) {k j:Nat}(hk:k<n) {u v:Value}(af:(i k)[j]? = some u) (hv:(c2 k)[j]? = some v):u=v:=by
 obtain⟨g,P,ad,aa⟩:=h.ex;obtain⟨R,ah,ae,ab⟩:=T.ex;have t:=ad (by omega);have C:=ae (by omega);rw[t]at C;obtain⟨rfl,rfl⟩:g=R∧P=ah:=by simpa using C
 have ac:g≠b:=fun e=>hn P (by rw[t,e])
 have U:=(aa k hk).2 j u af;have I:=(ab k hk).2 j v hv;rw[zaQ ac,U]at I;exact Option.some.inj I
theorem zk.on {s:Sl}{l:List Int}(h:zk w s l) (g:∀ b j,0<s.n->s.p=some ⟨b,j,none⟩->X b) (i:∀ b,X b->ym w b->w'.heap[b]? = w.heap[b]?):zk w' s l:=
 ⟨h.n,h.m,h.at'.on (fun _ _ e=>by cases e) g i⟩
theorem qR.on {s:Sl}{ds:List Res}(h:qR w s ds) (T:∀ b,¬ X b->qR (QA w b) s ds) (ab:∀ b,X b->ym w b->w'.heap[b]? = w.heap[b]?):qR w' s ds:=by
 obtain⟨ad,ae,i,R,af⟩:=h;have U:∀ b g,0<s.n->s.p=some ⟨b,g,none⟩->X b:=fun b g aa P=>by
  apply Classical.byContradiction;intro t;obtain⟨_,_,o,C,_⟩:=T b t;exact C.erased aa P (fun e=>by cases e)
 refine⟨ad,ae,i,R.on (fun _ _ e=>by cases e) U ab,fun k I=>(af k I).on (fun b g aa P=>?_) ab⟩;apply Classical.byContradiction;intro t;obtain⟨_,_,o,C,ag⟩:=T b t;have ah:∀ g,s.p≠some ⟨b,g,none⟩:=fun g e=>t (U b g (by omega) e)
 have e:(Value.slice (i k).p (i k).n (i k).cap)=.slice (o k).p (o k).n (o k).cap:=R.same C ah I (j:=6) rfl rfl;obtain⟨ac,ai,_⟩:(i k).p=(o k).p∧(i k).n=(o k).n∧(i k).cap=(o k).cap:=by simpa using e
 exact(ag k I).at'.erased (by omega) (by rw[<- ac];exact P) (fun e=>by cases e)
theorem j3.on {s:Sl}{C:List (List Res)}(h:j3 w s C) (ab:∀ b,¬ X b->j3 (QA w b) s C) (ad:∀ b,X b->ym w b->w'.heap[b]? = w.heap[b]?):j3 w' s C:=by
 obtain⟨af,ag,g,aa,ah⟩:=h;have ac:∀ b o,0<s.n->s.p=some ⟨b,o,none⟩->X b:=fun b o aj al=>by
  apply Classical.byContradiction;intro t;obtain⟨_,_,i,I,_⟩:=ab b t;exact I.erased aj al (fun e=>by cases e)
 refine⟨af,ag,g,aa.on (fun _ _ e=>by cases e) ac ad,fun k P=>(ah k P).on (fun b t=>?_) ad⟩;obtain⟨_,_,i,I,ai⟩:=ab b t;have ak:∀ o,s.p≠some ⟨b,o,none⟩:=fun o e=>t (ac b o (by omega) e)
 have e:(Value.slice (g k).p (g k).n (g k).cap)=.slice (i k).p (i k).n (i k).cap:=aa.same I ak P (j:=0) rfl rfl;obtain⟨R,T,U⟩:(g k).p=(i k).p∧(g k).n=(i k).n∧(g k).cap=(i k).cap:=by simpa using e
 have ae:g k=i k:=by
  generalize g k=a at *;generalize i k=b at *;obtain⟨an,ao,aq⟩:=a;obtain⟨ar,au,av⟩:=b;dsimp only at R T U;subst R T U;rfl
 rw[ae];exact ai k P
theorem zq.on {x:Pv}{d:Pd}(h:On w X (fun w=>zq w x d)) (o:∀ b,X b->ym w b->w'.heap[b]? = w.heap[b]?):zq w' x d:=by
 have i:=h w (fun _ _=>rfl);have j:∀ b,¬ X b->zq (QA w b) x d:=fun b g=>h _ (fun c p=>yY (fun e=>g (by rw[<- e];exact p)))
 exact⟨i.e,i.vars.on (fun b g=>(j b g).vars) o,i.fields.on (fun b g=>(j b g).fields) o,i.m⟩
end
end Go.Proofs.YtplcndmdkabmeaaGreatDoor
