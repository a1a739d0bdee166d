/- The walk over the reference's FirstOf. Conditions: none. -/
import Derived.Test.YtplcndmdkabmeaaGreatDoorGua
import Derived.Test.YtplcndmdkabmeaaGreatDoorSliceLo
import Derived.Laws.CopyRow
import Derived.Test.YtplcndmdkabmeaaGreatDoorPicb
import Derived.Test.YtplcndmdkabmeaaGreatDoorVal
set_option linter.unusedSimpArgs false
set_option linter.unusedVariables false
set_option maxRecDepth 100000
set_option maxHeartbeats 1600000
namespace Go.Proofs.YtplcndmdkabmeaaGreatDoor
open Go.Proofs.Tryz
open Go.RowKit
section
variable {P : Program} {ops : Array Oper} {Q : Exit -> Act -> World -> Prop} {a : Act} {w0 w : World} {rest : List Oper} {L : List zg} {D : List zl}
 {d:Option Tmp} {ty:TypeId} {pos:String} {after:Array Edge} {g:Option (Nat × Bool)}
theorem JX {x y:Operand}{t t2 E p:TypeId}{z:List Value}{b off n c m cm:Nat}{ad:Addr}{j cs' news:List Value}{f:List Value->List zg}(J:Loc w0 w L D)
  (aj:Region.wanted ⟨d,.call { callee:=.builtin .copy,args:=#[x,y],argTypes:=#[t,t2] },ty,pos,after,g⟩ (yielded ops a.tmps)=true)
  (ak:a.eval x=.slice (some ⟨b,off,none⟩) n c) (I:InL b p j L f) (al:a.eval y=.slice (some ad) m cm) (hT:q5 P t E z)
  (ae:news.length=Nat.min m n*z.length) (ag:∀ T u,news[T]? = some u->w.cell? (ad.add T)=some u) (U:∀ u∈news,u.oneCell'=true) (ah:off+news.length<=j.length) (ai:zj j off news=cs')
  (h:∀ w',Loc w0 w' (f cs') D->wpList P ops Q rest (a.put d (goInt (Nat.min m n))) w'):
  wpList P ops Q (⟨d,.call { callee:=.builtin .copy,args:=#[x,y],argTypes:=#[t,t2] },ty,pos,after,g⟩::rest) a w:=by
 have R:=J.heap I;have af:=run_loadCells_list (P:=P) w ad news ag;have C:=run_storeCells_at P b off p news 0 j.toArray w R (by simpa using ah) U;simp only[Nat.add_zero]at C;have aa:(j.toArray.toList.take off++news++j.toArray.toList.drop (off+news.length))=cs':=by
  rw[<- ai,List.append_assoc];rfl
 rw[aa]at C;refine qp (o:=⟨d,.call { callee:=.builtin .copy,args:=#[x,y],argTypes:=#[t,t2] },ty,pos,after,g⟩) (v:=goInt (Nat.min m n)) (w':=w.setRow b cs'.toArray) aj ?_ (h _ (J.put I cs' rfl rfl rfl (by simp[World.setRow]) (setRow_heap w b _ _ p _ R) (fun k _ ac=>setRow_other w b k _ ac)));unfold execOp;simp only[resolve,invoke,builtin,Sem.run_bind,Sem.run_pure,Result.andThen_ok,List.map_toArray,List.map_cons,List.map_nil,ak,al];have ab:(Builtin.copy_ #[t,t2] ty #[.slice (some ⟨b,off,none⟩) n c,.slice (some ad) m cm]).run P w=.ok (goInt (Nat.min m n)) (w.setRow b cs'.toArray):=by
  simp[Builtin.copy_,Sem.run_bind,run_underlying hT.und,qH hT.size.size,Builtin.lenOf,Builtin.firstCells,<- ae,af,C]
 rw[ab];rfl
end
section
variable {P : Program} {ops : Array Oper}
variable {t : List Value} {df : List Deferred} {ds : List Nat} {xs : List Yld} {w0 : World} {CL : Array Bool -> List zg} {D : List zl} {l : Array Bool} {g : Nat -> Value} {w : World} {i : Nat} {o : Oper}
def ZM (ops:Array Oper) (j i:Nat):Bool:=match ops[j]? with
 | some oj=>(zD oj).contains i
 | none=>false
structure zih (xs us:List Yld) (w0:World) (CL:Array Bool->List zg) (D:List zl) (l:Array Bool) (g:Nat->Value) (w:World):Prop where
 inv:zeu xs w0 CL D l g w
 olds:∀ e∈us,lst l e.1=false->g e.2.1=e.2.2
def zfM (t:List Value) (df:List Deferred) (ds:List Nat) (xs j:List Yld) (w0:World) (CL:Array Bool->List zg) (D:List zl) (l:Array Bool) (a:Act) (w:World):Prop:=
 ∃ g,a=⟨(zv t ds g).toArray,df⟩∧zih xs j w0 CL D l g w
def zhr (ds:List Nat) (xs j:List Yld):Bool:=zdg ds xs&&j.all (fun e=>xs.all (fun f=>!(f.2.1==e.2.1) || f.1==e.1))
theorem qN {ab:List Yld}{d:Nat}{x:Value}{L:List zg}(hk:zhr ds xs ab=true) (I:(i,d,x)∈xs) (hi:i<l.size) (ae:zih xs ab w0 CL D l g w) (af:CL (l.setIfInBounds i true)=L)
  (h:wpList P ops (fun e R ac=>e=.normal∧R=(⟨(zv t ds g).toArray,df⟩:Act).put (some d) x∧Loc w0 ac L D) [o] ⟨(zv t ds g).toArray,df⟩ w):
  wpList P ops (q6 (zfM t df ds xs ab w0 CL D (l.setIfInBounds i true))) [o] ⟨(zv t ds g).toArray,df⟩ w:=by
 simp only[zhr,zdg,Bool.and_eq_true,decide_eq_true_eq]at hk;obtain⟨⟨⟨ah,ai⟩,aj⟩,ak⟩:=hk;have ag:d∈ds:=by
  have:=List.all_eq_true.1 aj (i,d,x) I;simpa using this
 refine Qs (rest:=[]) (fun _ _ _ h=>by cases h.1) (fun _ _ h=>by cases h.1) (fun R ac j=>?_) h;show q6 _ .normal R ac
 obtain⟨_,rfl,J⟩:=j;refine⟨rfl,upd g d x,Ke ag,⟨by rw[af];exact J,fun e j p=>?_⟩,fun e j p=>?_⟩
 ·by_cases C:e.1=i
  ·have U:e=(i,d,x):=qI ah e j _ I C
   subst U;simp[upd]
  ·rw[ze C]at p
   have aa:e.2.1≠d:=fun T=>by
    have U:e=(i,d,x):=qI ai e j _ I T;exact C (congrArg Prod.fst U)
   simp only[upd,if_neg aa];exact ae.inv.vals e j p
 ·by_cases C:e.1=i
  ·exfalso
   rw[C]at p;rw[q1 hi]at p;cases p
  ·rw[ze C]at p
   have aa:e.2.1≠d:=fun T=>by
    have ad:=List.all_eq_true.1 (List.all_eq_true.1 ak e j) _ I;simp[T]at ad;exact C ad.symm
   simp only[upd,if_neg aa];exact ae.olds e j p
def zhs (P:Program) (ops:Array Oper) (t:List Value) (df:List Deferred) (ds:List Nat) (xs j:List Yld) (w0:World) (CL:Array Bool->List zg) (D:List zl) (i:Nat) (o:Oper):Prop:=
 ∀ l g w,i<l.size->zih xs j w0 CL D l g w->(∀ p∈zD o,lst l p=true)->(∀ e∈j,ZM ops e.1 i=true->g e.2.1=e.2.2)->
  wpList P ops (q6 (zfM t df ds xs j w0 CL D (l.setIfInBounds i true))) [o] ⟨(zv t ds g).toArray,df⟩ w
theorem UG {Q:Exit->Act->World->Prop}{af:World}{id:Nat}{j:List Oper}(ds:List Nat) (xs U:List Yld) (CL:Array Bool->List zg) (aq:P.follows .mixedOrders=true) (au:Region.orderB j.toArray=true) (ah:Loc w0 af (CL (Array.replicate j.toArray.size false)) D)
  (ax:∀ e∈U,t.getD e.2.1 undef=e.2.2) (av:JP (zhs P j.toArray t df ds xs U w0 CL D) 0 j)
  (an:∀ g w l,(∀ i,i<j.length->lst l i=true)->Loc w0 w (CL l) D->(∀ e∈xs,e.1<j.length->g e.2.1=e.2.2)->wpList P j.toArray Q [] ⟨(zv t ds g).toArray,df⟩ w):
  (Code.region id j.toArray true).wp P Q ⟨t.toArray,df⟩ af:=by
 refine Vi (Inv:=zfM t df ds xs U w0 CL D) aq au ?_ ?_ ?_
 ·refine⟨fun d=>t.getD d undef,by rw[yb],⟨ah.drew,fun e _ R=>?_⟩,fun e I _=>ax e I⟩
  unfold lst at R;rw[getD_replicate_false]at R;cases R
 ·intro i o p l a w ae aa aw V
  obtain⟨g,rfl,C⟩:=aa;have ao : i<j.toArray.size:=(Array.getElem?_eq_some_iff.1 p).1;have:=Z0 (K:=zhs P j.toArray t df ds xs U w0 CL D) (k:=0) (i:=i) (o:=o) av (by simpa using p);rw[Nat.zero_add]at this;refine this l g w (by rw[ae.size];exact ao) C V fun e I T=>C.olds e I ?_
  unfold ZM at T;cases ab:j.toArray[e.1]? with
  | none=>rw[ab]at T;cases T
  | some oj=>
   rw[ab]at T;have ar:i∈zD oj:=by simpa using T
   obtain⟨ag,aj,rfl⟩:=List.mem_map.1 ar;obtain⟨ak,al⟩:=List.mem_filter.1 aj;cases R:lst l e.1 with
   | false=>rfl
   | true=>
    have ac:=ae.closed e.1 oj ab R ag (by simpa using ak) al;rw[getD_both aw]at ac;cases ac
 ·intro l a w aa ai
  obtain⟨g,rfl,C⟩:=aa;have ad : ∀ i,i<j.length->lst l i=true:=fun i p=>ai i (by simpa using p)
  exact an g w l ad C.inv.loc (fun e I p=>C.inv.vals e I (ad _ p))
end
theorem GP (n:Int) (hn:0<=n∧n<=8) (w:World):
  Calls prog 209 #[.int .u64 1,.int .u64 n] w fun e j=>e=.returned (.tuple #[.int .u64 0,.int .u64 n])∧Below w.heap.size w j:=by
 obtain rfl|rfl|rfl|rfl|rfl|rfl|rfl|rfl|rfl:n=0∨n=1∨n=2∨n=3∨n=4∨n=5∨n=6∨n=7∨n=8:=by omega
 all_goals
  clear hn;have J:=Loc.start w;go_enter func209,ntmps209;go_wp2_with (with_reducible first|refine lld J ?_|((first|refine lbx J ?_|refine lal J ?_|refine lbs J ?_);clear J;intro C p J)|(refine zc J ?_;clear J;intro p J))
  (try simp only[Exit.inBlock,Exit.then]);refine rt2 ?_
  exact⟨rfl,J.below⟩
theorem zcq (n:Int) (hn:0<=n∧n<=8) (w:World):
  Calls prog 166 #[.int .u64 1,.int .u64 n] w fun e j=>e=.returned (.tuple #[.int .u64 0,.int .u64 n])∧Below w.heap.size w j:=by
 have C:=za (fun j=>GP n hn j);clear hn;have J:=Loc.start w;go_enter func166,ntmps166;go_wp2_with (first|(with_reducible first|refine lld J ?_|((first|refine lbx J ?_|refine lal J ?_|refine lbs J ?_);clear J;intro I p J)|(refine zc J ?_;clear J;intro p J))|(go_at_call 209;refine cg J (C.out _) ?_;clear J;intro p J;dsimp only))
 (try simp only[Exit.inBlock,Exit.then]);refine rt2 ?_
 exact⟨rfl,J.below⟩
abbrev Ja:List Value:=[.bool false,.bool false,.int .i64 0,.int .i64 0,.bool false,.bool false,.slice none 0 0]
def QD (c:List Value) (k m:Nat):List Value:=(List.replicate k c++List.replicate m Ja).flatten
theorem VW {c:List Value}(h:c.length=7) (k m:Nat):(QD c k m).length=(k+m)*7:=by
 unfold QD;rw[List.flatten_append,List.length_append];have:∀ (x:List Value) (i:Nat),x.length=7->(List.replicate i x).flatten.length=i*7:=by
  intro x i j;induction i with
  | zero=>simp
  | succ i ih=>rw[List.replicate_succ,List.flatten_cons,List.length_append,j,ih];omega
 rw[this c k h,this Ja m rfl];omega
theorem Qk {c:List Value}(h:c.length=7) (k:Nat):(List.replicate k c).flatten.length=k*7:=by
 have:=VW h k 0;simpa [QD] using this
theorem KC {c:List Value}(h:c.length=7) (k m r:Nat):zj (QD c k (m+r)) (k*7) ((List.replicate m c).flatten)=QD c (k+m) r:=by
 have p:QD c k (m+r)=(List.replicate k c).flatten++((List.replicate m Ja).flatten++(List.replicate r Ja).flatten):=by
  unfold QD;rw[<- List.flatten_append,<- List.flatten_append,List.replicate_append_replicate]
 have C:QD c (k+m) r=(List.replicate k c).flatten++((List.replicate m c).flatten++(List.replicate r Ja).flatten):=by
  unfold QD;rw[<- List.replicate_append_replicate,List.append_assoc,List.flatten_append,List.flatten_append]
 have j:=Qk h k;have I:=Qk h m;have R:=Qk (c:=Ja) rfl m;unfold zj;rw[p,C,I];rw[List.take_left' j];congr 1;rw[<- List.append_assoc (List.replicate k c).flatten,List.drop_left' (by rw[List.length_append,j,R])]
theorem X3 {c:List Value}(k m r:Nat):∀ (j:Nat) (u:Value),((List.replicate m c).flatten)[j]? = some u->(QD c (m+k) r)[j]? = some u:=by
 intro j u p;unfold QD;rw[<- List.replicate_append_replicate,List.append_assoc,List.flatten_append,List.getElem?_append_left (List.getElem?_eq_some_iff.1 p).1];exact p
theorem zcr {c:List Value}(h:c.length=7) (k m r:Nat):zj (QD c (k+m) r) (k*7) ((List.replicate m c).flatten)=QD c (k+m) r:=by
 have C:QD c (k+m) r=(List.replicate k c).flatten++((List.replicate m c).flatten++(List.replicate r Ja).flatten):=by
  unfold QD;rw[<- List.replicate_append_replicate,List.append_assoc,List.flatten_append,List.flatten_append]
 have j:=Qk h k;have p:=Qk h m;unfold zj;rw[C,p];rw[List.take_left' j];congr 1;rw[<- List.append_assoc (List.replicate k c).flatten,List.drop_left' (by rw[List.length_append,j,p])]
theorem zcs (c:List Value) (hc:c.length=7) (a6:∀ u∈c,u.oneCell'=true) (b n:Nat) (hn:n<=8) (w:World) (aC:w.heap[b]? = some (.cells c.toArray 108 (0,0))):
  Calls prog 137 #[.slice (some ⟨b,0,none⟩) 1 1,.int .i64 n] w fun e ag=>∃ r,e=.returned (.slice (some ⟨r,0,none⟩) n n)∧Loc w ag [(r,108,(List.replicate n c).flatten)] []:=by
 have aJ:=za (fun ag=>zcq (n:Int) ⟨by omega,by omega⟩ ag);have aI:=za (fun (ag : World) (aA:Below w.heap.size w ag) R u (aa:c[R]? = some u)=>show ag.cell? ⟨b,R,none⟩=some u by rw[aA.cell (p:=⟨b,R,none⟩) (zz aC)];simp[World.cell?,aC,aa]);clear aC;have ah:=za hc;have aZ:=za a6;have av:=za (fun k (_:k<=n) u (bk:u∈(List.replicate k c).flatten)=>show u.oneCell'=true by
  obtain⟨x,bl,aW⟩:=List.mem_flatten.1 bk;rw[(List.mem_replicate.1 bl).2]at aW;exact a6 u aW)
 obtain⟨ab,ai⟩:∃ m,m=Nat.min 1 n:=⟨_,rfl⟩;have bq:ab<=1:=ai▸Nat.min_le_left 1 n;have aF:ab<=n:=ai▸Nat.min_le_right 1 n;have aT:n=0∨ab=1:=by
  rcases Nat.eq_zero_or_pos n with h|h
  ·exact .inl h
  ·exact .inr (ai.trans (Nat.min_eq_left h))
 have aU:∀ (ag : World),Below w.heap.size w ag->∀ (R:Nat) (u:Value),((List.replicate ab c).flatten)[R]? = some u->ag.cell? ((⟨b,0,none⟩:Addr).add R)=some u:=by
  intro ag aA R u aa;rw[zG,Nat.zero_add];have:ab=0∨ab=1:=by omega
  rcases this with h|h
  ·rw[h]at aa;simp at aa
  ·rw[h]at aa;exact aI.out ag aA R u (by simpa using aa)
 have aV:zj (List.replicate n Ja).flatten 0 ((List.replicate ab c).flatten)=QD c ab (n - ab):=by
  have a7:=KC hc 0 ab (n - ab);rw[Nat.add_sub_cancel' aF]at a7;simpa [QD] using a7
 have aK:=za ai;have aL:=za aT;clear ai aT;have aM:=za aU;have aO:=za aV;clear hc a6 aU aV aI;have J:=Loc.start w;go_enter func137,ntmps137;go_upto_region 6 with(first|(with_reducible first|refine lld J ?_|((first|refine lbx J ?_|refine lal J ?_|refine lbs J ?_);clear J;intro an ac J)|(refine zc J ?_;clear J;intro ac J))|(go_at_call 166;refine cg J (aJ.out _) ?_;clear J;intro ac J;dsimp only))
 go_upto_region 7 with(first|(with_reducible first|refine lld J ?_|((first|refine lbx J ?_|refine lal J ?_|refine lbs J ?_);clear J;intro an ac J)|(refine zc J ?_;clear J;intro ac J))|(refine Kb J rfl jC ZP rfl rfl (by omega) (by omega) ?_;clear J;intro r ac J))
 go_upto_region 8 with(first|(refine JX (b:=r) (off:=0) (n:=n) (c:=n) (ad:=⟨b,0,none⟩) (m:=1) (cm:=1) (news:=(List.replicate ab c).flatten) J rfl rfl InL.head rfl jC (by rw[Qk ah.out,<- aK.out];rfl) (aM.out _ J.below) (av.out _ aF) (by rw[Qk ah.out,Qk (c:=Ja) rfl];omega) (aO.out) ?_;clear J;intro ac J;rw[<- aK.out])|(with_reducible first|refine lld J ?_|((first|refine lbx J ?_|refine lal J ?_|refine lbs J ?_);clear J;intro an ac J)|(refine zc J ?_;clear J;intro ac J)))
 go_loopw [8] (fun bh wr=>∃ k:Nat,k<=n∧ab<=k∧bh=.int .i64 k∧Loc w wr [(r,108,QD c k (n - k))] []) (fun c _=>n - (intOf c).toNat)
 case atStart=>exact⟨ab,aF,Nat.le_refl _,rfl,J⟩
 case round=>
  obtain⟨k,bi,bp,rfl,J⟩:=hrel;by_cases aS:k<n
  ·have bj:1<=k:=by have:=aL.out;omega
   obtain⟨j,aj⟩:∃ m,m=Nat.min k (n - k):=⟨_,rfl⟩;have a7:j<=k:=aj▸Nat.min_le_left k (n - k);have bn:j<=n - k:=aj▸Nat.min_le_right k (n - k);have bo:1<=j:=by rw[aj];exact Nat.le_min.2 ⟨bj,by omega⟩
   have au:=za aj;have ak:zj (QD c k (n - k)) (k*7) ((List.replicate j c).flatten)=QD c (k+j) (n - (k+j)):=by
    have e:=KC ah.out k j (n - (k+j));rwa [show j+(n - (k+j))=n - k by omega]at e
   have ar:=zcr ah.out k j (n - (k+j));have ao:∀ (R:Nat) (u:Value),((List.replicate j c).flatten)[R]? = some u->(QD c k (n - k))[R]? = some u:=fun R u aa=>by
    have e:=X3 (c:=c) (k - j) j (n - k) R u aa;rwa [show j+(k - j)=k by omega]at e
   have aq:∀ (R:Nat) (u:Value),((List.replicate j c).flatten)[R]? = some u->(QD c (k+j) (n - (k+j)))[R]? = some u:=fun R u aa=>by
    have e:=X3 (c:=c) k j (n - (k+j)) R u aa;rwa [Nat.add_comm j k]at e
   have aD:=VW ah.out k (n - k);have aE:=VW ah.out (k+j) (n - (k+j));obtain⟨U,a8⟩:∃ C,C=QD c (k+j) (n - (k+j)):=⟨_,rfl⟩;rw[<- a8]at ak ar aq aE;have ba:=za a8;clear a8;generalize QD c k (n - k)=ae at J ak ao aD;have a9:=av.out j (by omega);have aH:=Qk ah.out j;generalize (List.replicate j c).flatten=aP at ak ar ao aq a9 aH;have bf:=za ak;have bg:=za ar;have bd:=za ao;have be:=za aq;have bb:=za aD;have bc:=za aE;have aN:=za a9;have al:=za aH;clear aj ak ar ao aq aD aE a9 aH aL av aZ aM aO aJ;go_upto_region 9 with(with_reducible first|refine lld J ?_|((first|refine lbx J ?_|refine lal J ?_|refine lbs J ?_);clear J;intro an ac J)|(refine zc J ?_;clear J;intro ac J))
   have aQ:=J.conv (L':=(fun l=>[(r,108,bif lst l 7 then U else ae)]) (Array.replicate 10 false)) (by simp only[KG,cond_false]);refine UG (w0:=_) [38,39,40,41,42,43,44,45,46,8] [(0,38,.int .i64 k),(1,39,.slice (some ⟨r,0,none⟩) n n),(2,40,.int .i64 k),(3,41,.slice (some ⟨r,k*7,none⟩) (n - k) (n - k)),(4,42,.slice (some ⟨r,0,none⟩) n n),(5,43,.int .i64 k),(6,44,.slice (some ⟨r,0,none⟩) k n),(7,45,.int .i64 j),(8,46,.int .i64 ((k:Int)+j)),(9,8,.int .i64 ((k:Int)+j))] [(9,8,.int .i64 k)] (fun l=>[(r,108,bif lst l 7 then U else ae)]) (by kernel_rfl) (by kernel_rfl) aQ (by intro e aB;(rcases List.mem_cons.1 aB with rfl|aB;· rfl);cases aB) ⟨?_,?_,?_,?_,?_,?_,?_,?_,?_,?_,trivial⟩ ?_
   all_goals clear J aQ
   ·intro l g w T hI V I
    have J:=hI.inv.loc
    try dsimp only at J
    have d9:=I (9,8,.int .i64 k) cMm (show ZM _ (9:Nat) (0:Nat)=true from by decide)
    try dsimp only at d9
    refine qN (d:=38) (x:=.int .i64 k) (L:=[(r,108,bif lst l 7 then U else ae)]) (by kernel_rfl) cMm T hI (by simp only[ze (show (7:Nat)≠0 by decide)]) ?_;clear V I;simp only[fD];simp only[d9];go_wp2
    (try exact⟨rfl,(by first|rfl|(go_num;done)),J⟩)
   ·intro l g w T hI V I
    have J:=hI.inv.loc
    try dsimp only at J
    refine qN (d:=39) (x:=.slice (some ⟨r,0,none⟩) n n) (L:=[(r,108,bif lst l 7 then U else ae)]) (by kernel_rfl) cMm T hI (by simp only[ze (show (7:Nat)≠1 by decide)]) ?_;clear V I;simp only[fD];go_wp2
    (try exact⟨rfl,(by first|rfl|(go_num;done)),J⟩)
   ·intro l g w T hI V I
    have J:=hI.inv.loc
    try dsimp only at J
    have d9:=I (9,8,.int .i64 k) cMm (show ZM _ (9:Nat) (2:Nat)=true from by decide)
    try dsimp only at d9
    refine qN (d:=40) (x:=.int .i64 k) (L:=[(r,108,bif lst l 7 then U else ae)]) (by kernel_rfl) cMm T hI (by simp only[ze (show (7:Nat)≠2 by decide)]) ?_;clear V I;simp only[fD];simp only[d9];go_wp2
    (try exact⟨rfl,(by first|rfl|(go_num;done)),J⟩)
   ·intro l g w T hI V I
    have J:=hI.inv.loc
    try dsimp only at J
    have d1:=hI.inv.vals (1,39,.slice (some ⟨r,0,none⟩) n n) cMm (V 1 (by decide))
    try dsimp only at d1
    have d2:=hI.inv.vals (2,40,.int .i64 k) cMm (V 2 (by decide))
    try dsimp only at d2
    refine qN (d:=41) (x:=.slice (some ⟨r,k*7,none⟩) (n - k) (n - k)) (L:=[(r,108,bif lst l 7 then U else ae)]) (by kernel_rfl) cMm T hI (by simp only[ze (show (7:Nat)≠3 by decide)]) ?_;clear V I;simp only[fD];simp only[d1,d2]
    (refine Us (ad:=⟨r,0,none⟩) (q:=⟨r,k*7,none⟩) (l:=k) (n:=n) (c:=n) rfl jC rfl rfl (by omega) aS (by rw[zG,Nat.zero_add];rfl) ?_)
    (try exact⟨rfl,(by first|rfl|(go_num;done)),J⟩)
   ·intro l g w T hI V I
    have J:=hI.inv.loc
    try dsimp only at J
    refine qN (d:=42) (x:=.slice (some ⟨r,0,none⟩) n n) (L:=[(r,108,bif lst l 7 then U else ae)]) (by kernel_rfl) cMm T hI (by simp only[ze (show (7:Nat)≠4 by decide)]) ?_;clear V I;simp only[fD];go_wp2
    (try exact⟨rfl,(by first|rfl|(go_num;done)),J⟩)
   ·intro l g w T hI V I
    have J:=hI.inv.loc
    try dsimp only at J
    have d9:=I (9,8,.int .i64 k) cMm (show ZM _ (9:Nat) (5:Nat)=true from by decide)
    try dsimp only at d9
    refine qN (d:=43) (x:=.int .i64 k) (L:=[(r,108,bif lst l 7 then U else ae)]) (by kernel_rfl) cMm T hI (by simp only[ze (show (7:Nat)≠5 by decide)]) ?_;clear V I;simp only[fD];simp only[d9];go_wp2
    (try exact⟨rfl,(by first|rfl|(go_num;done)),J⟩)
   ·intro l g w T hI V I
    have J:=hI.inv.loc
    try dsimp only at J
    have d4:=hI.inv.vals (4,42,.slice (some ⟨r,0,none⟩) n n) cMm (V 4 (by decide))
    try dsimp only at d4
    have d5:=hI.inv.vals (5,43,.int .i64 k) cMm (V 5 (by decide))
    try dsimp only at d5
    refine qN (d:=44) (x:=.slice (some ⟨r,0,none⟩) k n) (L:=[(r,108,bif lst l 7 then U else ae)]) (by kernel_rfl) cMm T hI (by simp only[ze (show (7:Nat)≠6 by decide)]) ?_;clear V I;simp only[fD];simp only[d4,d5]
    (refine Ut (b:=r) (off:=0) (l:=k) (n:=n) (c:=n) rfl jC rfl rfl bi ?_)
    (try exact⟨rfl,(by first|rfl|(go_num;done)),J⟩)
   ·intro l g w T hI V I
    have J:=hI.inv.loc
    try dsimp only at J
    have d3:=hI.inv.vals (3,41,.slice (some ⟨r,k*7,none⟩) (n - k) (n - k)) cMm (V 3 (by decide))
    try dsimp only at d3
    have d6:=hI.inv.vals (6,44,.slice (some ⟨r,0,none⟩) k n) cMm (V 6 (by decide))
    try dsimp only at d6
    refine qN (d:=45) (x:=.int .i64 j) (L:=[(r,108,U)]) (by kernel_rfl) cMm T hI (by simp only[q1 T,cond_true]) ?_;clear V I;simp only[fD];simp only[d3,d6];generalize lst l 7=bm at J;cases bm
    all_goals
     simp only[cond_true,cond_false]at J
     (first|(refine JX (b:=r) (off:=k*7) (n:=n - k) (c:=n - k) (ad:=⟨r,0,none⟩) (m:=k) (cm:=n) (news:=aP) (cs':=U) J rfl rfl InL.head rfl jC (by rw[al.out,<- au.out];rfl) (fun R u aa=>by rw[zG,Nat.zero_add,J.cell InL.head];exact bd.out R u aa) aN.out (by rw[al.out,bb.out];omega) bf.out ?_)|(refine JX (b:=r) (off:=k*7) (n:=n - k) (c:=n - k) (ad:=⟨r,0,none⟩) (m:=k) (cm:=n) (news:=aP) (cs':=U) J rfl rfl InL.head rfl jC (by rw[al.out,<- au.out];rfl) (fun R u aa=>by rw[zG,Nat.zero_add,J.cell InL.head];exact be.out R u aa) aN.out (by rw[al.out,bc.out];omega) bg.out ?_));clear J;intro ac J;rw[<- au.out]
     exact⟨rfl,rfl,J⟩
   ·intro l g w T hI V I
    have J:=hI.inv.loc
    try dsimp only at J
    have d0:=hI.inv.vals (0,38,.int .i64 k) cMm (V 0 (by decide))
    try dsimp only at d0
    have d7:=hI.inv.vals (7,45,.int .i64 j) cMm (V 7 (by decide))
    try dsimp only at d7
    refine qN (d:=46) (x:=.int .i64 ((k:Int)+j)) (L:=[(r,108,bif lst l 7 then U else ae)]) (by kernel_rfl) cMm T hI (by simp only[ze (show (7:Nat)≠8 by decide)]) ?_;clear V I;simp only[fD];simp only[d0,d7];go_wp2
    (try exact⟨rfl,(by first|rfl|(go_num;done)),J⟩)
   ·intro l g w T hI V I
    have J:=hI.inv.loc
    try dsimp only at J
    have d8:=hI.inv.vals (8,46,.int .i64 ((k:Int)+j)) cMm (V 8 (by decide))
    try dsimp only at d8
    refine qN (d:=8) (x:=.int .i64 ((k:Int)+j)) (L:=[(r,108,bif lst l 7 then U else ae)]) (by kernel_rfl) cMm T hI (by simp only[ze (show (7:Nat)≠9 by decide)]) ?_;clear V I;simp only[fD];simp only[d8];go_wp2
    (try exact⟨rfl,(by first|rfl|(go_num;done)),J⟩)
   intro g br l aR J af;simp only[aR 7 (by decide),cond_true]at J;have aw:=af (0,38,.int .i64 k) cMm (show (0:Nat)<10 by decide);have ax:=af (1,39,.slice (some ⟨r,0,none⟩) n n) cMm (show (1:Nat)<10 by decide);have ay:=af (2,40,.int .i64 k) cMm (show (2:Nat)<10 by decide);have az:=af (3,41,.slice (some ⟨r,k*7,none⟩) (n - k) (n - k)) cMm (show (3:Nat)<10 by decide);have a0:=af (4,42,.slice (some ⟨r,0,none⟩) n n) cMm (show (4:Nat)<10 by decide);have a1:=af (5,43,.int .i64 k) cMm (show (5:Nat)<10 by decide);have a2:=af (6,44,.slice (some ⟨r,0,none⟩) k n) cMm (show (6:Nat)<10 by decide);have a3:=af (7,45,.int .i64 j) cMm (show (7:Nat)<10 by decide);have a4:=af (8,46,.int .i64 ((k:Int)+j)) cMm (show (8:Nat)<10 by decide);have a5:=af (9,8,.int .i64 ((k:Int)+j)) cMm (show (9:Nat)<10 by decide)
   try dsimp only at aw ax ay az a0 a1 a2 a3 a4 a5
   clear af aR;simp only[fD];simp only[aw,ax,ay,az,a0,a1,a2,a3,a4,a5];clear aw ax ay az a0 a1 a2 a3 a4 a5;rw[ba.out]at J;go_roundw
   case rel=>
    refine⟨_,_,_,_,_,_,_,_,_,_,_,_,_,_,?_,rfl⟩;exact⟨k+j,by omega,by omega,by go_num,J⟩
   case measure=>simp[intOf];omega
  ·obtain rfl:k=n:=by omega
   clear aS;go_wp2_with (with_reducible first|refine lld J ?_|((first|refine lbx J ?_|refine lal J ?_|refine lbs J ?_);clear J;intro an ac J)|(refine zc J ?_;clear J;intro ac J))
   (try simp only[Exit.inBlock,Exit.then]);refine rt1 ?_
   exact⟨r,rfl,J.conv (by simp[QD])⟩
abbrev Yx:Res:=⟨true,zA,false,false,[]⟩
abbrev Qz:Res:=⟨false,zA,false,false,[]⟩
abbrev X4:Gu:=⟨true,zA,false,false,zi⟩
theorem zN.rep {w:World}{g:Gu}{d:Res}(h:ql w g d):∀ n:Nat,zN w (List.replicate n g) (List.replicate n d)
 | 0=>zN.nil w
 | n+1=>by
  rw[List.replicate_succ,List.replicate_succ];exact(zN.one h).append (zN.rep h n)
theorem Ug (g:Gu):∀ n:Nat,(List.replicate n (Gu.cells g)).flatten=(List.replicate n g).flatMap Gu.cells
 | 0=>rfl
 | n+1=>by rw[List.replicate_succ,List.replicate_succ,List.flatten_cons,List.flatMap_cons,Ug g n]
def qM (nv nf j:Nat):Pd:=⟨false,List.replicate nv Yx,List.replicate j (List.replicate nf Qz)⟩
theorem KD {j:Type}(x:j) (k:Nat):List.replicate (k+1) x=List.replicate k x++[x]:=List.replicate_succ'
theorem zdf (g:Gu) (d:Res) (R:∀ w,ql w g d) (b n:Nat) (hn:n<=8) (w:World) (T:w.heap[b]? = some (.cells (Gu.cells g).toArray 108 (0,0))):
  Calls prog 137 #[.slice (some ⟨b,0,none⟩) 1 1,.int .i64 n] w fun e I=>∃ (r:Sl) (C:List Gu) (j:List zg),e=.returned r.v∧zB 108 7 r.p r.n r.cap (C.flatMap Gu.cells) j∧Loc w I j [fun w=>zN w C (List.replicate n d)]:=by
 refine(zcs (Gu.cells g) rfl (fun u U=>ziH (l:=[g]) u (by simpa using U)) b n hn w T).mono ?_;rintro e I ⟨r,rfl,J⟩;refine⟨⟨some ⟨r,0,none⟩,n,n⟩,List.replicate n g,_,rfl,zB.full (xs:=(List.replicate n g).flatMap Gu.cells) (by rw[<- Ug,Qk rfl]) (show n<=maxLen by have:maxLen=9223372036854775807:=rfl;omega),?_⟩;rw[<- Ug];exact J.pure (fun w=>zN.rep (R w) n)
theorem Uh (p:Pg) (nv nf:Nat) (hv:p.vars=nv) (hf:p.fields=nf) (aT:nv<=8) (aU : nf<=8) (hn:p.n<=1000) (w:World):
  Calls prog 96 #[p.v] w fun q ae=>∃ r:Pv,q=.returned r.v∧yd w ae r (qM nv nf p.n):=by
 have a1:=za (fun (b:Nat) ae hh=>zdf X4 Yx (fun w=>⟨rfl,zk.nil w⟩) b nv aT ae hh);have aL:=za (fun (b:Nat) ae hh=>zdf qn Qz (fun w=>⟨rfl,zk.nil w⟩) b nf aU ae hh);obtain⟨bm,bl,aD,pn,aC⟩:=p;dsimp only at hv hf hn;subst hv hf;have aJ:=za (show (qM nv nf pn).vars=List.replicate nv Yx from rfl);have aI:=za (show (qM nv nf pn).fields=List.replicate pn (List.replicate nf Qz) from rfl);have aK:=za (fun k=>KD (List.replicate nf Qz) k);have J:=Loc.start w;go_enter func96,ntmps96;go_step;go_step;go_step
 ((with_reducible refine lbx J ?_);clear J;intro an C J)
 ((with_reducible refine lal J ?_);clear J;intro ao C J)
 go_upto_region 2 with(first|(go_at_call 136;refine cg J (ja _) ?_;clear J;intro C J;dsimp only)|((with_reducible refine lal J ?_);clear J;intro a4 C J)|(with_reducible refine zc J ?_;clear J;intro C J))
 go_upto_region 4 with(first|(with_reducible first|(refine lbs J ?_;clear J;intro bj C J)|refine lld J ?_|(refine lal J ?_;clear J;intro aq C J)|(refine zc J ?_;clear J;intro C J))|(go_at_call 137;refine(a1.out _ _ (J.heap cIn)).mono ?_;rintro q bi ⟨⟨az,ay,ax⟩,au,ab,rfl,aA,a7⟩;replace J:=J.gave a7;simp only[aX]at J;clear a7;dsimp only))
 have aM:=za aA;clear aA a1;dsimp only[Sl.v]at J ⊢;go_wp2_with (with_reducible refine lld J ?_);go_loopw [16] (fun c wr=>∃ (k:Nat) (ak:Option Addr) (aj:Nat) (ad:List Sl) (aa:List (List Gu)) (T I:List zg),k<=pn∧c=.int .i64 k∧zB 51 1 ak k aj (ad.flatMap Sl.row) T∧jT ad aa I∧Loc w wr ((aq,54,[.bool false,.slice az ay ax,.slice ak k aj])::(ao,54,[.bool false,.slice none 0 0,.slice none 0 0])::(an,27,[.int .i64 nv,.int .i64 nf,.slice aD pn aC])::(ab++(I++T))) [fun w=>jj w aa (List.replicate k (List.replicate nf Qz)),fun w=>zN w au (List.replicate nv Yx)]) (fun c _=>pn - (intOf c).toNat)
 case atStart=>exact⟨0,none,0,[],[],[],[],Nat.zero_le _,rfl,zB.nil,.nil,((J.drop (L':=(aq,54,[.bool false,.slice az ay ax,.slice none 0 0])::(ao,54,[.bool false,.slice none 0 0,.slice none 0 0])::(an,27,[.int .i64 nv,.int .i64 nf,.slice aD pn aC])::ab) (.cons_cons _ (.cons _ (.cons _ (.cons_cons _ (.cons_cons _ (List.Sublist.refl _)))))) (fun _ h=>h)).conv (by simp)).pure (fun w=>jj.nil w)⟩
 case round=>
  obtain⟨k,ak,aj,ad,aa,T,I,bk,rfl,a9,a6,J⟩:=hrel;have a2:=za a9;have a0:=za a6;clear a9 a6;by_cases bb:k<pn
  ·obtain⟨af,be⟩:∃ x,x=wr:=⟨_,rfl⟩
   subst be;go_upto_region 6 with(fail)
   refine zb [18,19,20,21,22,23,24,25] ?_
   iterate 2 refine qdv ?_
   refine qdk J (fun _ ac J=>ja _) ?_;refine qdw ?_
   iterate 2 refine qdv ?_
   refine qdn (ZF af (List.replicate nf Qz)) ZF.stable J ?_ ?_
   ·intro g w ac J V q;simp only[aG]at q;obtain⟨a4,ar,d3,f3⟩:=yr V 3;clear V;simp only[fD];simp only[q,d3]
    go_wp2_with (go_at_call 137;refine(aL.out _ _ f3).mono ?_;rintro q bi ⟨r,aR,R,rfl,bd,aB⟩;dsimp only);exact⟨rfl,_,rfl,aB.below,r,aR,R,rfl,bd,Loc.since ac aB⟩
   refine qdn (yZ af (List.replicate nf Qz)) yZ.stable J ?_ ?_
   ·intro g w ac J V q;have d6:(ZF af (List.replicate nf Qz)) (g 24) w:=yr V 6;obtain⟨aE,a5,a3,d6,bc,aW⟩:=d6;clear V;simp only[fD];simp only[d6]
    go_wp2_with (fail);exact⟨rfl,_,rfl,(Below.refl _ _).alloc (Nat.le_refl _) _,aE,a5,a3,_,rfl,bc,aW.grow ((Below.refl _ _).alloc (Nat.le_refl _) _),jo _ _⟩
   refine qy J ?_;intro g aH ac ai q;simp only[aG]at q;obtain⟨a4,bg,ar,aP⟩:=qye ai 3;have ag:(ZF af (List.replicate nf Qz)) (g 24) aH:=qye ai 6;obtain⟨aE,a5,a3,ag,-,-⟩:=ag;have ah:(yZ af (List.replicate nf Qz)) (g 25) aH:=qye ai 7;obtain⟨aF,aS,al,aO,ah,aZ,a8,aV⟩:=ah;clear ai;simp only[fD];simp only[q,ar,ag,ah];clear q ar ag ah;clear bg aP;replace J:=J.gave a8;simp only[aX]at J;clear a8;clear ac;replace J:=J.perm ((((ZG ab I T al).cons _).cons _).cons _);go_wp2_with (first|(refine zF (z:=[.slice none 0 0]) (K:=(aq,_,_)::(ao,_,_)::(an,_,_)::(ab++(I++al))) (R:=T) (news:=Sl.row aF) a2.out J (by simp only[List.cons_append,List.append_assoc];rfl) rfl rfl UK zcG (by decide) rfl (fun _=>⟨⟨aO,0,none⟩,rfl,fun j u ba=>by rw[zG,Nat.zero_add];exact zP aV j ba⟩) rfl (by simp[Value.oneCell']) (by have:maxLen=9223372036854775807:=rfl;omega) (by omega) ?_;clear J;intro bh aQ aN bn aY J;simp only[List.cons_append,List.append_assoc]at J)|(with_reducible refine zc J ?_;clear J;intro C J));go_roundw
   case rel=>
    refine⟨k+1,bh,aQ,ad++[aF],aa++[aS],aN,I++al,by omega,by go_num,by simpa using aY,a0.out.snoc aZ,(J.conv (by simp only[List.append_assoc])).both fun w av aw=>?_⟩;rw[aK.out];exact aw.snoc av
   case measure=>simp[intOf];omega
  ·obtain rfl:k=pn:=by omega
   clear bb;go_wp2_with (with_reducible first|refine lld J ?_|(refine zc J ?_;clear J;intro C J));refine rt1 ?_;exact⟨⟨false,⟨az,ay,ax⟩,⟨ak,k,aj⟩⟩,rfl,au,aa,ad,ab,T,I,rfl,⟨aM.out,a2.out,a0.out⟩,(J.both (U:=zH au aa (qM nv nf k).vars (qM nv nf k).fields) fun w av aw=>⟨by rw[aJ.out];exact aw,by rw[aI.out];exact av⟩).drop (List.sublist_append_right [_,_,_] _) (fun _ h=>h)⟩
theorem X5 (p:Pg) (is:Nat->Ins) (nv nf:Nat) (hv:p.vars=nv) (hf:p.fields=nf) (ai:nv<=8) (aj : nf<=8) (hn:p.n<=1000) (w:World) (hc:zy w p is) (T:zf p is=0):
  Calls prog 49 #[p.v] w fun e j=>∃ r:Pv,e=.returned (.tuple #[r.v,.int .i64 0])∧yd w j r (qM nv nf p.n):=by
 have C:=fun j (al:Below w.heap.size w j)=>jn p is j (hc.grow al) (Nat.le_trans hn (by decide))
 rw[T]at C;have aa:=za C;have I:=za (fun j=>Uh p nv nf hv hf ai aj hn j);clear C T hc hn hv hf;generalize qM nv nf p.n=ax at I ⊢;have J:=Loc.start w;go_enter func49,ntmps49;go_wp2_with (first|(with_reducible first|refine lld J ?_|((first|refine lbx J ?_|refine lal J ?_);clear J;intro aw U J)|(refine zc J ?_;clear J;intro U J))|(go_at_call 43;refine cg J (aa.out _ J.below) ?_;clear J;intro U J;dsimp only)|(go_at_call 96;refine(I.out _).mono ?_;rintro q ay ⟨⟨ao,⟨av,au,ar⟩,⟨af,fn,ae⟩⟩,rfl,ah,ag,aq,ad,ac,ab,an,ak,R⟩;replace J:=J.gave R;simp only[aX]at J;clear R;dsimp only));refine rt2 ?_;exact⟨⟨ao,⟨av,au,ar⟩,⟨af,fn,ae⟩⟩,rfl,ah,ag,aq,ad,ac,ab,an,ak,J.drop (List.sublist_append_right [_,_] _) (fun _ h=>h)⟩
theorem zct (p:Pg) (nv nf:Nat) (hv:p.vars=nv) (hf:p.fields=nf) (aQ:nv<=8) (aR : nf<=8) (hn:p.n<=1000) (w:World):
  Calls prog 56 #[p.v] w fun q aP=>∃ r:Pv,q=.returned r.v∧yd w aP r (qM nv nf p.n):=by
 obtain⟨aV,aU,a6,aa,a5⟩:=p;dsimp only at hv hf hn;subst hv hf;have aF:=za (show (qM nv nf aa).vars=List.replicate nv Yx from rfl);have aE:=za (show (qM nv nf aa).fields=List.replicate aa (List.replicate nf Qz) from rfl);have aJ:=za (fun k=>KD (List.replicate nf Qz) k);have aH:=za (fun k=>KD qn k);have aI:=za (fun k=>KD X4 k);have J:=Loc.start w;go_enter func56,ntmps56;go_step;go_step;go_step
 ((with_reducible refine lbx J ?_);clear J;intro af C J)
 ((with_reducible refine lal J ?_);clear J;intro ag C J)
 go_upto_region 2 with((with_reducible refine lal J ?_);clear J;intro ah C J)
 go_wp2;go_loopw [4] (fun c wr=>∃ (k:Nat) (ak:Option Addr) (aj:Nat) (T:List zg),k<=nv∧c=.int .i64 k∧zB 108 7 ak k aj ((List.replicate k X4).flatMap Gu.cells) T∧Loc w wr ((ah,54,[.bool false,.slice ak k aj,.slice none 0 0])::(ag,54,[.bool false,.slice none 0 0,.slice none 0 0])::(af,27,[.int .i64 nv,.int .i64 nf,.slice a6 aa a5])::T) []) (fun c _=>nv - (intOf c).toNat)
 case atStart=>exact⟨0,none,0,[],Nat.zero_le _,rfl,zB.nil,J.conv (by simp)⟩
 case round=>
  obtain⟨k,ak,aj,T,aS,rfl,aC,J⟩:=hrel;have a1:=za aC;clear aC;by_cases a4:k<nv
  ·go_upto_region 6 with(first|(go_at_call 78;refine cg J (zt _) ?_;clear J;intro C J;dsimp only)|(with_reducible first|(refine lal J ?_;clear J;intro aK C J)|refine lld J ?_|(refine zc J ?_;clear J;intro C J)))
   go_wp2_with (first|((with_reducible refine lbs J ?_);clear J;intro I C J)|(refine zF (z:=Ja) (K:=(I,_,_)::(aK,_,_)::(ah,_,_)::(ag,_,_)::(af,_,_)::[]) (R:=T) (news:=Gu.cells X4) a1.out J (by simp only[aX];rfl) rfl rfl jC ZP (by decide) rfl (fun _=>⟨⟨I,0,none⟩,rfl,fun j u ai=>by rw[zG,Nat.zero_add];exact zP (J.heap (b:=I) cIn) j ai⟩) rfl (by simp[Value.oneCell']) (by have:maxLen=9223372036854775807:=rfl;omega) (by omega) ?_;clear J;intro aw an al aD aq J;simp only[aX]at J)|(with_reducible first|refine lld J ?_|(refine zc J ?_;clear J;intro C J)));go_roundw
   case rel=>
    refine⟨k+1,aw,an,al,by omega,by go_num,by rw[aI.out,List.flatMap_append];simpa using aq,J.drop (.cons _ (.cons _ (List.Sublist.refl _))) (fun _ h=>h)⟩
   case measure=>simp[intOf];omega
  ·obtain rfl:k=nv:=by omega
   clear a4;replace J:=J.pure (S:=fun w=>zN w (List.replicate k X4) (List.replicate k Yx)) (fun w=>zN.rep ⟨rfl,zk.nil w⟩ k);generalize List.replicate k X4=az at J a1;go_wp2_with (with_reducible refine lld J ?_);go_loopw [6] (fun c wr=>∃ (av : Nat) (au:Option Addr) (ar:Nat) (ay:List Sl) (ae:List (List Gu)) (ac ab:List zg),av<=aa∧c=.int .i64 av∧zB 51 1 au av ar (ay.flatMap Sl.row) ac∧jT ay ae ab∧Loc w wr ((ah,54,[.bool false,.slice ak k aj,.slice au av ar])::(ag,54,[.bool false,.slice none 0 0,.slice none 0 0])::(af,27,[.int .i64 k,.int .i64 nf,.slice a6 aa a5])::(T++(ab++ac))) [fun w=>jj w ae (List.replicate av (List.replicate nf Qz)),fun w=>zN w az (List.replicate k Yx)]) (fun c _=>aa - (intOf c).toNat)
   case atStart=>exact⟨0,none,0,[],[],[],[],Nat.zero_le _,rfl,zB.nil,.nil,(J.conv (by simp)).pure (fun w=>jj.nil w)⟩
   case round=>
    obtain⟨m,au,ar,ay,ae,ac,ab,aT,rfl,aB,a9,J⟩:=hrel;have a8:=za aB;have a7:=za a9;clear aB a9;by_cases a4:m<aa
    ·go_wp2_with (with_reducible refine lld J ?_)
     go_loopw [7,8] (fun aL aM wr=>∃ (j:Nat) (ax:Option Addr) (ao:Nat) (ad:List zg),j<=nf∧aL=.slice ax j ao∧aM=.int .i64 j∧zB 108 7 ax j ao ((List.replicate j qn).flatMap Gu.cells) ad∧Loc w wr ((ah,54,[.bool false,.slice ak k aj,.slice au m ar])::(ag,54,[.bool false,.slice none 0 0,.slice none 0 0])::(af,27,[.int .i64 k,.int .i64 nf,.slice a6 aa a5])::((T++(ab++ac))++ad)) [fun w=>jj w ae (List.replicate m (List.replicate nf Qz)),fun w=>zN w az (List.replicate k Yx)]) (fun _ c _=>nf - (intOf c).toNat)
     case atStart=>exact⟨0,none,0,[],Nat.zero_le _,rfl,rfl,zB.nil,J.conv (by simp)⟩
     case round=>
      obtain⟨j,ax,ao,ad,ai,rfl,rfl,aA,J⟩:=hrel;have a0:=za aA;clear aA;by_cases aO:j<nf
      ·go_wp2_with (first|(go_at_call 78;refine cg J (zt _) ?_;clear J;intro C J;dsimp only)|((with_reducible refine lbs J ?_);clear J;intro I C J)|(refine zF (z:=Ja) (K:=(I,_,_)::(ah,_,_)::(ag,_,_)::(af,_,_)::(T++(ab++ac))) (R:=ad) (news:=Gu.cells qn) a0.out J (by simp only[List.cons_append,List.append_assoc];rfl) rfl rfl jC ZP (by decide) rfl (fun _=>⟨⟨I,0,none⟩,rfl,fun j u ai=>by rw[zG,Nat.zero_add];exact zP (J.heap (b:=I) cIn) j ai⟩) rfl (by simp[Value.oneCell']) (by have:maxLen=9223372036854775807:=rfl;omega) (by omega) ?_;clear J;intro aw an al aD aq J;simp only[aX]at J)|(with_reducible refine lld J ?_))
       go_roundw
       case rel=>
        refine⟨j+1,aw,an,al,by omega,rfl,by go_num,by rw[aH.out,List.flatMap_append];simpa using aq,J.drop (.cons _ (List.Sublist.refl _)) (fun _ h=>h)⟩
       case measure=>simp[intOf];omega
      ·obtain rfl:j=nf:=by omega
       clear aO;replace J:=(J.perm ((((ZG T ab ac ad).cons _).cons _).cons _)).pure (S:=fun w=>zN w (List.replicate j qn) (List.replicate j Qz)) (fun w=>zN.rep ⟨rfl,zk.nil w⟩ j);generalize List.replicate j qn=aN at J a0;go_wp2_with (first|((with_reducible refine lbs J ?_);clear J;intro I C J)|(refine zF (z:=[.slice none 0 0]) (K:=(I,_,_)::(ah,_,_)::(ag,_,_)::(af,_,_)::(T++(ab++ad))) (R:=ac) (news:=Sl.row ⟨ax,j,ao⟩) a8.out J (by simp only[List.cons_append,List.append_assoc];rfl) rfl rfl UK zcG (by decide) rfl (fun _=>⟨⟨I,0,none⟩,rfl,fun j u ai=>by rw[zG,Nat.zero_add];exact zP (J.heap (b:=I) cIn) j ai⟩) rfl (by simp[Value.oneCell']) (by have:maxLen=9223372036854775807:=rfl;omega) (by omega) ?_;clear J;intro aw an al aD aq J;simp only[List.cons_append,List.append_assoc]at J)|(with_reducible first|refine lld J ?_|(refine zc J ?_;clear J;intro C J)));go_roundw
       case rel=>
        refine⟨m+1,aw,an,ay++[⟨ax,j,ao⟩],ae++[aN],al,ab++ad,by omega,by go_num,by simpa using aq,a7.out.snoc a0.out,((J.drop (.cons _ (List.Sublist.refl _)) (fun _ h=>h)).conv (by simp only[List.append_assoc])).both fun w a2 a3=>?_⟩;rw[aJ.out];exact a3.snoc a2
       case measure=>simp[intOf];omega
    ·obtain rfl:m=aa:=by omega
     clear a4;go_wp2_with (with_reducible first|refine lld J ?_|(refine zc J ?_;clear J;intro C J));refine rt1 ?_;exact⟨⟨false,⟨ak,k,aj⟩,⟨au,m,ar⟩⟩,rfl,az,ae,ay,T,ac,ab,rfl,⟨a1.out,a8.out,a7.out⟩,(J.both (U:=zH az ae (qM k nf m).vars (qM k nf m).fields) fun w a2 a3=>⟨by rw[aF.out];exact a3,by rw[aE.out];exact a2⟩).drop (List.sublist_append_right [_,_,_] _) (fun _ h=>h)⟩
end Go.Proofs.YtplcndmdkabmeaaGreatDoor
