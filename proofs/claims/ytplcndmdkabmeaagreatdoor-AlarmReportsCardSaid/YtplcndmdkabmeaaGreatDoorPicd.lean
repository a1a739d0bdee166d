/- 'x[lo:]' and 'x[:hi]' of a slice. Over any program. Conditions: the bounds. | copy onto a slice of the call's own, whatever the size of its elements. Over any program. Conditions: none. | The walks over bits.Mul (small numbers) and slices.Repeat at one guess. Conditions: what they read lies in memory that was there. | The walks over picture.First, picture.Begin. Conditions: what they read lies in memory that was there. | The walk over the reference's FirstOf. Conditions: none. -/
import Derived.Test.YtplcndmdkabmeaaGreatDoorGua
import Derived.Laws.CopyRow
import Derived.Test.YtplcndmdkabmeaaGreatDoorPicc
import Derived.Test.YtplcndmdkabmeaaGreatDoorVal
set_option linter.unusedSimpArgs false
set_option linter.unusedVariables false
set_option maxRecDepth 100000
namespace Go.Proofs.YtplcndmdkabmeaaGreatDoor
open Go.RowKit
section
variable {P : Program} {ops : Array Oper} {Q : Exit → Act → World → Prop} {a : Act} {w0 w : World} {rest : List Oper} {L : List zj} {D : List zw}
 {d:Option Tmp} {ty:TypeId} {pos:String} {after:Array Edge} {g:Option (Nat × Bool)}
theorem Uo {T E:TypeId}{z:List Value}{x lo:Operand}{ad q:Addr}{n c l:Nat}{k:IntKind}(hw:Region.wanted ⟨d,.slice T x (some lo) none none,ty,pos,after,g⟩ (yielded ops a.tmps)=true) (hT:jH P T E z)
  (hx:a.eval x=.slice (some ad) n c) (hlo:a.eval lo=.int k (l:Int)) (h1:l≤n) (h2:l<c) (hq:ad.add (l*z.length)=q)
  (h:wpList P ops Q rest (a.put d (.slice (some q) (n - l) (c - l))) w):wpList P ops Q (⟨d,.slice T x (some lo) none none,ty,pos,after,g⟩::rest) a w:=
 z8 (o:=⟨d,.slice T x (some lo) none none,ty,pos,after,g⟩) (v:=.slice (some q) (n - l) (c - l)) (w':=w) hw (by
  subst hq
  have h3:c≠l:=by omega
  have h4:(l:Int)≤n:=by omega
  simp[execOp,hx,hlo,Instr.sliceAt,Instr.slice,Instr.sliceBounds,Instr.sliceBound,asIntOf,Sem.run_bind,run_underlying hT.und,jg hT.size.size,h3,h4];omega) h
theorem Up {T E:TypeId}{z:List Value}{x hi:Operand}{b off:Nat}{n c l:Nat}{k:IntKind}(hw:Region.wanted ⟨d,.slice T x none (some hi) none,ty,pos,after,g⟩ (yielded ops a.tmps)=true) (hT:jH P T E z)
  (hx:a.eval x=.slice (some ⟨b,off,none⟩) n c) (hhi:a.eval hi=.int k (l:Int)) (h1:l≤c)
  (h:wpList P ops Q rest (a.put d (.slice (some ⟨b,off,none⟩) l c)) w):wpList P ops Q (⟨d,.slice T x none (some hi) none,ty,pos,after,g⟩::rest) a w:=
 z8 (o:=⟨d,.slice T x none (some hi) none,ty,pos,after,g⟩) (v:=.slice (some ⟨b,off,none⟩) l c) (w':=w) hw (by
  have h4:(l:Int)≤c:=by omega
  simp[execOp,hx,hhi,Instr.sliceAt,Instr.slice,Instr.sliceBounds,Instr.sliceBound,asIntOf,Sem.run_bind,run_underlying hT.und,jg hT.size.size,h4,zH];omega) h
end
set_option maxHeartbeats 1600000
section
variable {P : Program} {ops : Array Oper} {Q : Exit → Act → World → Prop} {a : Act} {w0 w : World} {rest : List Oper} {L : List zj} {D : List zw}
 {d:Option Tmp} {ty:TypeId} {pos:String} {after:Array Edge} {g:Option (Nat × Bool)}
theorem Zf {x y:Operand}{t t2 E Tb:TypeId}{z:List Value}{b off n c m cm:Nat}{ad:Addr}{cs cs' news:List Value}{f:List Value→List zj}(hL:Loc w0 w L D)
  (hw:Region.wanted ⟨d,.call { callee:=.builtin .copy,args:=#[x,y],argTypes:=#[t,t2] },ty,pos,after,g⟩ (yielded ops a.tmps)=true)
  (hx:a.eval x=.slice (some ⟨b,off,none⟩) n c) (hm:InL b Tb cs L f) (hy:a.eval y=.slice (some ad) m cm) (hT:jH P t E z)
  (hl:news.length=Nat.min m n*z.length) (hnews:∀ j u,news[j]? = some u→w.cell? (ad.add j)=some u) (h1:∀ u∈news,u.oneCell'=true) (ho:off+news.length≤cs.length) (hs:zk cs off news=cs')
  (h:∀ w',Loc w0 w' (f cs') D→wpList P ops Q rest (a.put d (goInt (Nat.min m n))) w'):
  wpList P ops Q (⟨d,.call { callee:=.builtin .copy,args:=#[x,y],argTypes:=#[t,t2] },ty,pos,after,g⟩::rest) a w:=by
 have hp:=hL.heap hm
 have hld:=run_loadCells_list (P:=P) w ad news hnews
 have hst:=run_storeCells_at P b off Tb news 0 cs.toArray w hp (by simpa using ho) h1
 simp only[Nat.add_zero]at hst
 have hc:(cs.toArray.toList.take off++news++cs.toArray.toList.drop (off+news.length))=cs':=by
  rw[← hs,List.append_assoc];rfl
 rw[hc]at hst
 refine z8 (o:=⟨d,.call { callee:=.builtin .copy,args:=#[x,y],argTypes:=#[t,t2] },ty,pos,after,g⟩) (v:=goInt (Nat.min m n)) (w':=w.setRow b cs'.toArray) hw ?_ (h _ (hL.put hm cs' rfl rfl rfl (by simp[World.setRow]) (setRow_heap w b _ _ Tb _ hp) (fun k _ hk=>setRow_other w b k _ hk)))
 unfold execOp
 simp only[resolve,invoke,builtin,Sem.run_bind,Sem.run_pure,Result.andThen_ok,List.map_toArray,List.map_cons,List.map_nil,hx,hy]
 have hcp:(Builtin.copy_ #[t,t2] ty #[.slice (some ⟨b,off,none⟩) n c,.slice (some ad) m cm]).run P w=.ok (goInt (Nat.min m n)) (w.setRow b cs'.toArray):=by
  simp[Builtin.copy_,Sem.run_bind,run_underlying hT.und,jg hT.size.size,Builtin.lenOf,Builtin.firstCells,← hl,hld,hst]
 rw[hcp];rfl
end
section
variable {P : Program} {ops : Array Oper}
variable {t : List Value} {df : List Deferred} {ds : List Nat} {xs : List Yld} {w0 : World} {CL : Array Bool → List zj} {D : List zw} {l : Array Bool} {g : Nat → Value} {w : World} {i : Nat} {o : Oper}
def Z5 (ops:Array Oper) (j i:Nat):Bool:=match ops[j]? with
 | some oj=>(zi oj).contains i
 | none=>false
structure zgl (xs us:List Yld) (w0:World) (CL:Array Bool→List zj) (D:List zw) (l:Array Bool) (g:Nat→Value) (w:World):Prop where
 inv:zdn xs w0 CL D l g w
 olds:∀ e∈us,lst l e.1=false→g e.2.1=e.2.2
def zex (t:List Value) (df:List Deferred) (ds:List Nat) (xs us:List Yld) (w0:World) (CL:Array Bool→List zj) (D:List zw) (l:Array Bool) (a:Act) (w:World):Prop:=
 ∃ g,a=⟨(za t ds g).toArray,df⟩∧zgl xs us w0 CL D l g w
def zfQ (ds:List Nat) (xs us:List Yld):Bool:=zcm ds xs&&us.all (fun e=>xs.all (fun f=>!(f.2.1==e.2.1) || f.1==e.1))
theorem qL {us:List Yld}{d:Nat}{x:Value}{L:List zj}(hk:zfQ ds xs us=true) (hx:(i,d,x)∈xs) (hi:i<l.size) (hI:zgl xs us w0 CL D l g w) (hcl:CL (l.setIfInBounds i true)=L)
  (h:wpList P ops (fun e a' w'=>e=.normal∧a'=(⟨(za t ds g).toArray,df⟩:Act).put (some d) x∧Loc w0 w' L D) [o] ⟨(za t ds g).toArray,df⟩ w):
  wpList P ops (yR (zex t df ds xs us w0 CL D (l.setIfInBounds i true))) [o] ⟨(za t ds g).toArray,df⟩ w:=by
 simp only[zfQ,zcm,Bool.and_eq_true,decide_eq_true_eq]at hk
 obtain⟨⟨⟨k1,k2⟩,k3⟩,k4⟩:=hk
 have hdd:d∈ds:=by
  have:=List.all_eq_true.1 k3 (i,d,x) hx
  simpa using this
 refine JL (rest:=[]) (fun _ _ _ h=>by cases h.1) (fun _ _ h=>by cases h.1) (fun a' w' he=>?_) h
 show yR _ .normal a' w'
 obtain⟨_,rfl,hL⟩:=he
 refine⟨rfl,upd g d x,GM hdd,⟨by rw[hcl];exact hL,fun e he hl=>?_⟩,fun e he hl=>?_⟩
 ·by_cases hei:e.1=i
  ·have hee:e=(i,d,x):=yS k1 e he _ hx hei
   subst hee
   simp[upd]
  ·rw[zc hei]at hl
   have hne:e.2.1≠d:=fun hd=>by
    have hee:e=(i,d,x):=yS k2 e he _ hx hd
    exact hei (congrArg Prod.fst hee)
   simp only[upd,if_neg hne]
   exact hI.inv.vals e he hl
 ·by_cases hei:e.1=i
  ·exfalso
   rw[hei]at hl
   rw[qO hi]at hl;cases hl
  ·rw[zc hei]at hl
   have hne:e.2.1≠d:=fun hd=>by
    have h1:=List.all_eq_true.1 (List.all_eq_true.1 k4 e he) _ hx
    simp[hd]at h1
    exact hei h1.symm
   simp only[upd,if_neg hne]
   exact hI.olds e he hl
def zfR (P:Program) (ops:Array Oper) (t:List Value) (df:List Deferred) (ds:List Nat) (xs us:List Yld) (w0:World) (CL:Array Bool→List zj) (D:List zw) (i:Nat) (o:Oper):Prop:=
 ∀ l g w,i<l.size→zgl xs us w0 CL D l g w→(∀ j∈zi o,lst l j=true)→(∀ e∈us,Z5 ops e.1 i=true→g e.2.1=e.2.2)→
  wpList P ops (yR (zex t df ds xs us w0 CL D (l.setIfInBounds i true))) [o] ⟨(za t ds g).toArray,df⟩ w
theorem Uq {Q:Exit→Act→World→Prop}{w1:World}{id:Nat}{l0:List Oper}(ds:List Nat) (xs us:List Yld) (CL:Array Bool→List zj) (hm:P.follows .mixedOrders=true) (hord:Region.orderB l0.toArray=true) (h0:Loc w0 w1 (CL (Array.replicate l0.toArray.size false)) D)
  (hus:∀ e∈us,t.getD e.2.1 undef=e.2.2) (hsteps:Ym (zfR P l0.toArray t df ds xs us w0 CL D) 0 l0)
  (hfin:∀ g w l,(∀ i,i<l0.length→lst l i=true)→Loc w0 w (CL l) D→(∀ e∈xs,e.1<l0.length→g e.2.1=e.2.2)→wpList P l0.toArray Q [] ⟨(za t ds g).toArray,df⟩ w):
  (Code.region id l0.toArray true).wp P Q ⟨t.toArray,df⟩ w1:=by
 refine GL (Inv:=zex t df ds xs us w0 CL D) hm hord ?_ ?_ ?_
 ·refine⟨fun d=>t.getD d undef,by rw[Qy],⟨h0.drew,fun e _ hl=>?_⟩,fun e he _=>hus e he⟩
  unfold lst at hl;rw[getD_replicate_false]at hl;cases hl
 ·intro i o hi l a w inv hA hun V
  obtain⟨g,rfl,hI⟩:=hA
  have hi' : i<l0.toArray.size:=(Array.getElem?_eq_some_iff.1 hi).1
  have:=KS (K:=zfR P l0.toArray t df ds xs us w0 CL D) (k:=0) (i:=i) (o:=o) hsteps (by simpa using hi)
  rw[Nat.zero_add]at this
  refine this l g w (by rw[inv.size];exact hi') hI V fun e he hwt=>hI.olds e he ?_
  unfold Z5 at hwt
  cases ho:l0.toArray[e.1]? with
  | none=>rw[ho]at hwt;cases hwt
  | some oj=>
   rw[ho]at hwt
   have hmem:i∈zi oj:=by simpa using hwt
   obtain⟨ed,hed,rfl⟩:=List.mem_map.1 hmem
   obtain⟨hed1,hed2⟩:=List.mem_filter.1 hed
   cases hl:lst l e.1 with
   | false=>rfl
   | true=>
    have h1:=inv.closed e.1 oj ho hl ed (by simpa using hed1) hed2
    rw[getD_both hun]at h1
    cases h1
 ·intro l a w hA hall
  obtain⟨g,rfl,hI⟩:=hA
  have hall' : ∀ i,i<l0.length→lst l i=true:=fun i hi=>hall i (by simpa using hi)
  exact hfin g w l hall' hI.inv.loc (fun e he hi=>hI.inv.vals e he (hall' _ hi))
end
theorem Gh (n:Int) (hn:0≤n∧n≤8) (w:World):
  Calls Tryz.prog 209 #[.int .u64 1,.int .u64 n] w fun e w'=>e=.returned (.tuple #[.int .u64 0,.int .u64 n])∧Below w.heap.size w w':=by
 obtain rfl|rfl|rfl|rfl|rfl|rfl|rfl|rfl|rfl:n=0∨n=1∨n=2∨n=3∨n=4∨n=5∨n=6∨n=7∨n=8:=by omega
 all_goals
  clear hn
  have hL:=Loc.start w
  go_enter Tryz.func209,Tryz.ntmps209
  go_wp2_with (first|(with_reducible first|refine lld hL ?_|((first|refine lbx hL ?_|refine lal hL ?_|refine lbs hL ?_);clear hL;intro bl w1 hL)|(refine zd hL ?_;clear hL;intro w1 hL)))
  (try simp only[Exit.inBlock,Exit.then]);refine rt2 ?_
  exact⟨rfl,hL.below⟩
theorem zbB (n:Int) (hn:0≤n∧n≤8) (w:World):
  Calls Tryz.prog 166 #[.int .u64 1,.int .u64 n] w fun e w'=>e=.returned (.tuple #[.int .u64 0,.int .u64 n])∧Below w.heap.size w w':=by
 have HM:=Lib.hid (fun w'=>Gh n hn w')
 clear hn
 have hL:=Loc.start w
 go_enter Tryz.func166,Tryz.ntmps166
 go_wp2_with (first|(with_reducible first|refine lld hL ?_|((first|refine lbx hL ?_|refine lal hL ?_|refine lbs hL ?_);clear hL;intro bl w1 hL)|(refine zd hL ?_;clear hL;intro w1 hL))|(go_at_call 209;refine(HM.out _).mono ?_;rintro e w1 ⟨rfl,hb⟩;replace hL:=hL.grow hb;clear hb;dsimp only))
 (try simp only[Exit.inBlock,Exit.then]);refine rt2 ?_
 exact⟨rfl,hL.below⟩
abbrev Jw:List Value:=[.bool false,.bool false,.int .i64 0,.int .i64 0,.bool false,.bool false,.slice none 0 0]
def QY (c:List Value) (k m:Nat):List Value:=(List.replicate k c++List.replicate m Jw).flatten
theorem VC {c:List Value}(h:c.length=7) (k m:Nat):(QY c k m).length=(k+m)*7:=by
 unfold QY
 rw[List.flatten_append,List.length_append]
 have:∀ (x:List Value) (i:Nat),x.length=7→(List.replicate i x).flatten.length=i*7:=by
  intro x i hx
  induction i with
  | zero=>simp
  | succ i ih=>rw[List.replicate_succ,List.flatten_cons,List.length_append,hx,ih];omega
 rw[this c k h,this Jw m rfl];omega
theorem QH {c:List Value}(h:c.length=7) (k:Nat):(List.replicate k c).flatten.length=k*7:=by
 have:=VC h k 0
 simpa [QY] using this
theorem Ky {c:List Value}(h:c.length=7) (k m r:Nat):zk (QY c k (m+r)) (k*7) ((List.replicate m c).flatten)=QY c (k+m) r:=by
 have h1:QY c k (m+r)=(List.replicate k c).flatten++((List.replicate m Jw).flatten++(List.replicate r Jw).flatten):=by
  unfold QY
  rw[← List.flatten_append,← List.flatten_append,List.replicate_append_replicate]
 have h2:QY c (k+m) r=(List.replicate k c).flatten++((List.replicate m c).flatten++(List.replicate r Jw).flatten):=by
  unfold QY
  rw[← List.replicate_append_replicate,List.append_assoc,List.flatten_append,List.flatten_append]
 have hk:=QH h k
 have hm:=QH h m
 have hz:=QH (c:=Jw) rfl m
 unfold zk
 rw[h1,h2,hm]
 rw[List.take_left' hk]
 congr 1
 rw[← List.append_assoc (List.replicate k c).flatten,List.drop_left' (by rw[List.length_append,hk,hz])]
theorem XG {c:List Value}(k m r:Nat):∀ (j:Nat) (u:Value),((List.replicate m c).flatten)[j]? = some u→(QY c (m+k) r)[j]? = some u:=by
 intro j u hj
 unfold QY
 rw[← List.replicate_append_replicate,List.append_assoc,List.flatten_append,List.getElem?_append_left (List.getElem?_eq_some_iff.1 hj).1]
 exact hj
theorem zbC {c:List Value}(h:c.length=7) (k m r:Nat):zk (QY c (k+m) r) (k*7) ((List.replicate m c).flatten)=QY c (k+m) r:=by
 have h2:QY c (k+m) r=(List.replicate k c).flatten++((List.replicate m c).flatten++(List.replicate r Jw).flatten):=by
  unfold QY
  rw[← List.replicate_append_replicate,List.append_assoc,List.flatten_append,List.flatten_append]
 have hk:=QH h k
 have hm:=QH h m
 unfold zk
 rw[h2,hm]
 rw[List.take_left' hk]
 congr 1
 rw[← List.append_assoc (List.replicate k c).flatten,List.drop_left' (by rw[List.length_append,hk,hm])]
theorem zbD (c:List Value) (hc:c.length=7) (h1:∀ u∈c,u.oneCell'=true) (b n:Nat) (hn:n≤8) (w:World) (hh:w.heap[b]? = some (.cells c.toArray 108 (0,0))):
  Calls Tryz.prog 137 #[.slice (some ⟨b,0,none⟩) 1 1,.int .i64 n] w fun e w'=>∃ r,e=.returned (.slice (some ⟨r,0,none⟩) n n)∧Loc w w' [(r,108,(List.replicate n c).flatten)] []:=by
 have HM:=Lib.hid (fun w'=>zbB (n:Int) ⟨by omega,by omega⟩ w')
 have HH:=Lib.hid (fun (w' : World) (hb:Below w.heap.size w w') j u (hj:c[j]? = some u)=>show w'.cell? ⟨b,j,none⟩=some u by rw[hb.cell (p:=⟨b,j,none⟩) (zL hh)];simp[World.cell?,hh,hj])
 clear hh
 have HC:=Lib.hid hc
 have H1:=Lib.hid h1
 have HR1:=Lib.hid (fun k (_:k≤n) u (hu:u∈(List.replicate k c).flatten)=>show u.oneCell'=true by
  obtain⟨x,hx,hux⟩:=List.mem_flatten.1 hu
  rw[(List.mem_replicate.1 hx).2]at hux
  exact h1 u hux)
 obtain⟨m0,hm0⟩:∃ m,m=Nat.min 1 n:=⟨_,rfl⟩
 have hm1:m0≤1:=hm0▸Nat.min_le_left 1 n
 have hm2:m0≤n:=hm0▸Nat.min_le_right 1 n
 have hm3:n=0∨m0=1:=by
  rcases Nat.eq_zero_or_pos n with h|h
  ·exact .inl h
  ·exact .inr (hm0.trans (Nat.min_eq_left h))
 have hn1:∀ (w' : World),Below w.heap.size w w'→∀ (j:Nat) (u:Value),((List.replicate m0 c).flatten)[j]? = some u→w'.cell? ((⟨b,0,none⟩:Addr).add j)=some u:=by
  intro w' hb j u hj
  rw[zH,Nat.zero_add]
  have:m0=0∨m0=1:=by omega
  rcases this with h|h
  ·rw[h]at hj;simp at hj
  ·rw[h]at hj;exact HH.out w' hb j u (by simpa using hj)
 have hs0:zk (List.replicate n Jw).flatten 0 ((List.replicate m0 c).flatten)=QY c m0 (n - m0):=by
  have h2:=Ky hc 0 m0 (n - m0)
  rw[Nat.add_sub_cancel' hm2]at h2
  simpa [QY] using h2
 have HM0:=Lib.hid hm0
 have HM3:=Lib.hid hm3
 clear hm0 hm3
 have HN1:=Lib.hid hn1
 have HS0:=Lib.hid hs0
 clear hc h1 hn1 hs0 HH
 have hL:=Loc.start w
 go_enter Tryz.func137,Tryz.ntmps137
 go_upto_region 6 with(first|(with_reducible first|refine lld hL ?_|((first|refine lbx hL ?_|refine lal hL ?_|refine lbs hL ?_);clear hL;intro bl w1 hL)|(refine zd hL ?_;clear hL;intro w1 hL))|(go_at_call 166;refine(HM.out _).mono ?_;rintro e w1 ⟨rfl,hb⟩;replace hL:=hL.grow hb;clear hb;dsimp only))
 go_upto_region 7 with(first|(with_reducible first|refine lld hL ?_|((first|refine lbx hL ?_|refine lal hL ?_|refine lbs hL ?_);clear hL;intro bl w1 hL)|(refine zd hL ?_;clear hL;intro w1 hL))|(refine GH hL rfl jO Z9 rfl rfl (by omega) (by omega) ?_;clear hL;intro r w1 hL))
 go_upto_region 8 with(first|(refine Zf (b:=r) (off:=0) (n:=n) (c:=n) (ad:=⟨b,0,none⟩) (m:=1) (cm:=1) (news:=(List.replicate m0 c).flatten) hL rfl rfl InL.head rfl jO (by rw[QH HC.out,← HM0.out];rfl) (HN1.out _ hL.below) (HR1.out _ hm2) (by rw[QH HC.out,QH (c:=Jw) rfl];omega) (HS0.out) ?_;clear hL;intro w1 hL;rw[← HM0.out])|(with_reducible first|refine lld hL ?_|((first|refine lbx hL ?_|refine lal hL ?_|refine lbs hL ?_);clear hL;intro bl w1 hL)|(refine zd hL ?_;clear hL;intro w1 hL)))
 go_loopw [8] (fun c8 wr=>∃ k:Nat,k≤n∧m0≤k∧c8=.int .i64 k∧Loc w wr [(r,108,QY c k (n - k))] []) (fun c _=>n - (intOf c).toNat)
 case atStart=>exact⟨m0,hm2,Nat.le_refl _,rfl,hL⟩
 case round=>
  obtain⟨k,hk,hk0,rfl,hL⟩:=hrel
  by_cases hlt:k<n
  ·have hk1:1≤k:=by have:=HM3.out;omega
   obtain⟨m1,hm1'⟩:∃ m,m=Nat.min k (n - k):=⟨_,rfl⟩
   have h2:m1≤k:=hm1'▸Nat.min_le_left k (n - k)
   have h3:m1≤n - k:=hm1'▸Nat.min_le_right k (n - k)
   have h4:1≤m1:=by rw[hm1'];exact Nat.le_min.2 ⟨hk1,by omega⟩
   have HM1:=Lib.hid hm1'
   have hs1:zk (QY c k (n - k)) (k*7) ((List.replicate m1 c).flatten)=QY c (k+m1) (n - (k+m1)):=by
    have e:=Ky HC.out k m1 (n - (k+m1))
    rwa [show m1+(n - (k+m1))=n - k by omega]at e
   have hs2:=zbC HC.out k m1 (n - (k+m1))
   have hrd1:∀ (j:Nat) (u:Value),((List.replicate m1 c).flatten)[j]? = some u→(QY c k (n - k))[j]? = some u:=fun j u hj=>by
    have e:=XG (c:=c) (k - m1) m1 (n - k) j u hj
    rwa [show m1+(k - m1)=k by omega]at e
   have hrd2:∀ (j:Nat) (u:Value),((List.replicate m1 c).flatten)[j]? = some u→(QY c (k+m1) (n - (k+m1)))[j]? = some u:=fun j u hj=>by
    have e:=XG (c:=c) k m1 (n - (k+m1)) j u hj
    rwa [Nat.add_comm m1 k]at e
   have hl1:=VC HC.out k (n - k)
   have hl2:=VC HC.out (k+m1) (n - (k+m1))
   obtain⟨C1,hC1⟩:∃ C,C=QY c (k+m1) (n - (k+m1)):=⟨_,rfl⟩
   rw[← hC1]at hs1 hs2 hrd2 hl2
   have HC1:=Lib.hid hC1
   clear hC1
   generalize QY c k (n - k)=C0 at hL hs1 hrd1 hl1
   have hR:=HR1.out m1 (by omega)
   have hnl:=QH HC.out m1
   generalize (List.replicate m1 c).flatten=N1 at hs1 hs2 hrd1 hrd2 hR hnl
   have HS1:=Lib.hid hs1
   have HS2:=Lib.hid hs2
   have HRD1:=Lib.hid hrd1
   have HRD2:=Lib.hid hrd2
   have HL1:=Lib.hid hl1
   have HL2:=Lib.hid hl2
   have HRO:=Lib.hid hR
   have HNL:=Lib.hid hnl
   clear hm1' hs1 hs2 hrd1 hrd2 hl1 hl2 hR hnl HM3 HR1 H1 HN1 HS0 HM
   go_upto_region 9 with(first|(with_reducible first|refine lld hL ?_|((first|refine lbx hL ?_|refine lal hL ?_|refine lbs hL ?_);clear hL;intro bl w1 hL)|(refine zd hL ?_;clear hL;intro w1 hL)))
   have h0:=hL.conv (L':=(fun l=>[(r,108,bif lst l 7 then C1 else C0)]) (Array.replicate 10 false)) (by simp only[Zy,cond_false])
   refine Uq (w0:=_) [38,39,40,41,42,43,44,45,46,8] [(0,38,.int .i64 k),(1,39,.slice (some ⟨r,0,none⟩) n n),(2,40,.int .i64 k),(3,41,.slice (some ⟨r,k*7,none⟩) (n - k) (n - k)),(4,42,.slice (some ⟨r,0,none⟩) n n),(5,43,.int .i64 k),(6,44,.slice (some ⟨r,0,none⟩) k n),(7,45,.int .i64 m1),(8,46,.int .i64 ((k:Int)+m1)),(9,8,.int .i64 ((k:Int)+m1))] [(9,8,.int .i64 k)] (fun l=>[(r,108,bif lst l 7 then C1 else C0)]) (by kernel_rfl) (by kernel_rfl) h0 (by intro e he;(rcases List.mem_cons.1 he with rfl|he;· rfl);cases he) ⟨?_,?_,?_,?_,?_,?_,?_,?_,?_,?_,trivial⟩ ?_
   all_goals clear hL h0
   ·intro l g w hi hI V hU
    have hL:=hI.inv.loc
    try dsimp only at hL
    have d9:=hU (9,8,.int .i64 k) cMm (show Z5 _ (9:Nat) (0:Nat)=true from by decide)
    try dsimp only at d9
    refine qL (d:=38) (x:=.int .i64 k) (L:=[(r,108,bif lst l 7 then C1 else C0)]) (by kernel_rfl) cMm hi hI (by simp only[zc (show (7:Nat)≠0 by decide)]) ?_
    clear V hU
    simp only[za,fLa,fLb,sTa,sTb]
    simp only[d9]
    go_wp2
    (try exact⟨rfl,(by first|rfl|(go_num;done)),hL⟩)
   ·intro l g w hi hI V hU
    have hL:=hI.inv.loc
    try dsimp only at hL
    refine qL (d:=39) (x:=.slice (some ⟨r,0,none⟩) n n) (L:=[(r,108,bif lst l 7 then C1 else C0)]) (by kernel_rfl) cMm hi hI (by simp only[zc (show (7:Nat)≠1 by decide)]) ?_
    clear V hU
    simp only[za,fLa,fLb,sTa,sTb]
    go_wp2
    (try exact⟨rfl,(by first|rfl|(go_num;done)),hL⟩)
   ·intro l g w hi hI V hU
    have hL:=hI.inv.loc
    try dsimp only at hL
    have d9:=hU (9,8,.int .i64 k) cMm (show Z5 _ (9:Nat) (2:Nat)=true from by decide)
    try dsimp only at d9
    refine qL (d:=40) (x:=.int .i64 k) (L:=[(r,108,bif lst l 7 then C1 else C0)]) (by kernel_rfl) cMm hi hI (by simp only[zc (show (7:Nat)≠2 by decide)]) ?_
    clear V hU
    simp only[za,fLa,fLb,sTa,sTb]
    simp only[d9]
    go_wp2
    (try exact⟨rfl,(by first|rfl|(go_num;done)),hL⟩)
   ·intro l g w hi hI V hU
    have hL:=hI.inv.loc
    try dsimp only at hL
    have d1:=hI.inv.vals (1,39,.slice (some ⟨r,0,none⟩) n n) cMm (V 1 (by decide))
    try dsimp only at d1
    have d2:=hI.inv.vals (2,40,.int .i64 k) cMm (V 2 (by decide))
    try dsimp only at d2
    refine qL (d:=41) (x:=.slice (some ⟨r,k*7,none⟩) (n - k) (n - k)) (L:=[(r,108,bif lst l 7 then C1 else C0)]) (by kernel_rfl) cMm hi hI (by simp only[zc (show (7:Nat)≠3 by decide)]) ?_
    clear V hU
    simp only[za,fLa,fLb,sTa,sTb]
    simp only[d1,d2]
    (refine Uo (ad:=⟨r,0,none⟩) (q:=⟨r,k*7,none⟩) (l:=k) (n:=n) (c:=n) rfl jO rfl rfl (by omega) hlt (by rw[zH,Nat.zero_add];rfl) ?_)
    (try exact⟨rfl,(by first|rfl|(go_num;done)),hL⟩)
   ·intro l g w hi hI V hU
    have hL:=hI.inv.loc
    try dsimp only at hL
    refine qL (d:=42) (x:=.slice (some ⟨r,0,none⟩) n n) (L:=[(r,108,bif lst l 7 then C1 else C0)]) (by kernel_rfl) cMm hi hI (by simp only[zc (show (7:Nat)≠4 by decide)]) ?_
    clear V hU
    simp only[za,fLa,fLb,sTa,sTb]
    go_wp2
    (try exact⟨rfl,(by first|rfl|(go_num;done)),hL⟩)
   ·intro l g w hi hI V hU
    have hL:=hI.inv.loc
    try dsimp only at hL
    have d9:=hU (9,8,.int .i64 k) cMm (show Z5 _ (9:Nat) (5:Nat)=true from by decide)
    try dsimp only at d9
    refine qL (d:=43) (x:=.int .i64 k) (L:=[(r,108,bif lst l 7 then C1 else C0)]) (by kernel_rfl) cMm hi hI (by simp only[zc (show (7:Nat)≠5 by decide)]) ?_
    clear V hU
    simp only[za,fLa,fLb,sTa,sTb]
    simp only[d9]
    go_wp2
    (try exact⟨rfl,(by first|rfl|(go_num;done)),hL⟩)
   ·intro l g w hi hI V hU
    have hL:=hI.inv.loc
    try dsimp only at hL
    have d4:=hI.inv.vals (4,42,.slice (some ⟨r,0,none⟩) n n) cMm (V 4 (by decide))
    try dsimp only at d4
    have d5:=hI.inv.vals (5,43,.int .i64 k) cMm (V 5 (by decide))
    try dsimp only at d5
    refine qL (d:=44) (x:=.slice (some ⟨r,0,none⟩) k n) (L:=[(r,108,bif lst l 7 then C1 else C0)]) (by kernel_rfl) cMm hi hI (by simp only[zc (show (7:Nat)≠6 by decide)]) ?_
    clear V hU
    simp only[za,fLa,fLb,sTa,sTb]
    simp only[d4,d5]
    (refine Up (b:=r) (off:=0) (l:=k) (n:=n) (c:=n) rfl jO rfl rfl hk ?_)
    (try exact⟨rfl,(by first|rfl|(go_num;done)),hL⟩)
   ·intro l g w hi hI V hU
    have hL:=hI.inv.loc
    try dsimp only at hL
    have d3:=hI.inv.vals (3,41,.slice (some ⟨r,k*7,none⟩) (n - k) (n - k)) cMm (V 3 (by decide))
    try dsimp only at d3
    have d6:=hI.inv.vals (6,44,.slice (some ⟨r,0,none⟩) k n) cMm (V 6 (by decide))
    try dsimp only at d6
    refine qL (d:=45) (x:=.int .i64 m1) (L:=[(r,108,C1)]) (by kernel_rfl) cMm hi hI (by simp only[qO hi,cond_true]) ?_
    clear V hU
    simp only[za,fLa,fLb,sTa,sTb]
    simp only[d3,d6]
    generalize lst l 7=qst at hL
    cases qst
    all_goals
     simp only[cond_true,cond_false]at hL
     (first|(refine Zf (b:=r) (off:=k*7) (n:=n - k) (c:=n - k) (ad:=⟨r,0,none⟩) (m:=k) (cm:=n) (news:=N1) (cs':=C1) hL rfl rfl InL.head rfl jO (by rw[HNL.out,← HM1.out];rfl) (fun j u hj=>by rw[zH,Nat.zero_add,hL.cell InL.head];exact HRD1.out j u hj) HRO.out (by rw[HNL.out,HL1.out];omega) HS1.out ?_)|(refine Zf (b:=r) (off:=k*7) (n:=n - k) (c:=n - k) (ad:=⟨r,0,none⟩) (m:=k) (cm:=n) (news:=N1) (cs':=C1) hL rfl rfl InL.head rfl jO (by rw[HNL.out,← HM1.out];rfl) (fun j u hj=>by rw[zH,Nat.zero_add,hL.cell InL.head];exact HRD2.out j u hj) HRO.out (by rw[HNL.out,HL2.out];omega) HS2.out ?_));clear hL;intro w1 hL;rw[← HM1.out]
     exact⟨rfl,rfl,hL⟩
   ·intro l g w hi hI V hU
    have hL:=hI.inv.loc
    try dsimp only at hL
    have d0:=hI.inv.vals (0,38,.int .i64 k) cMm (V 0 (by decide))
    try dsimp only at d0
    have d7:=hI.inv.vals (7,45,.int .i64 m1) cMm (V 7 (by decide))
    try dsimp only at d7
    refine qL (d:=46) (x:=.int .i64 ((k:Int)+m1)) (L:=[(r,108,bif lst l 7 then C1 else C0)]) (by kernel_rfl) cMm hi hI (by simp only[zc (show (7:Nat)≠8 by decide)]) ?_
    clear V hU
    simp only[za,fLa,fLb,sTa,sTb]
    simp only[d0,d7]
    go_wp2
    (try exact⟨rfl,(by first|rfl|(go_num;done)),hL⟩)
   ·intro l g w hi hI V hU
    have hL:=hI.inv.loc
    try dsimp only at hL
    have d8:=hI.inv.vals (8,46,.int .i64 ((k:Int)+m1)) cMm (V 8 (by decide))
    try dsimp only at d8
    refine qL (d:=8) (x:=.int .i64 ((k:Int)+m1)) (L:=[(r,108,bif lst l 7 then C1 else C0)]) (by kernel_rfl) cMm hi hI (by simp only[zc (show (7:Nat)≠9 by decide)]) ?_
    clear V hU
    simp only[za,fLa,fLb,sTa,sTb]
    simp only[d8]
    go_wp2
    (try exact⟨rfl,(by first|rfl|(go_num;done)),hL⟩)
   intro g w2 l hl hL hX
   simp only[hl 7 (by decide),cond_true]at hL
   have e0:=hX (0,38,.int .i64 k) cMm (show (0:Nat)<10 by decide)
   have e1:=hX (1,39,.slice (some ⟨r,0,none⟩) n n) cMm (show (1:Nat)<10 by decide)
   have e2:=hX (2,40,.int .i64 k) cMm (show (2:Nat)<10 by decide)
   have e3:=hX (3,41,.slice (some ⟨r,k*7,none⟩) (n - k) (n - k)) cMm (show (3:Nat)<10 by decide)
   have e4:=hX (4,42,.slice (some ⟨r,0,none⟩) n n) cMm (show (4:Nat)<10 by decide)
   have e5:=hX (5,43,.int .i64 k) cMm (show (5:Nat)<10 by decide)
   have e6:=hX (6,44,.slice (some ⟨r,0,none⟩) k n) cMm (show (6:Nat)<10 by decide)
   have e7:=hX (7,45,.int .i64 m1) cMm (show (7:Nat)<10 by decide)
   have e8:=hX (8,46,.int .i64 ((k:Int)+m1)) cMm (show (8:Nat)<10 by decide)
   have e9:=hX (9,8,.int .i64 ((k:Int)+m1)) cMm (show (9:Nat)<10 by decide)
   try dsimp only at e0 e1 e2 e3 e4 e5 e6 e7 e8 e9
   clear hX hl
   simp only[za,fLa,fLb,sTa,sTb]
   simp only[e0,e1,e2,e3,e4,e5,e6,e7,e8,e9]
   clear e0 e1 e2 e3 e4 e5 e6 e7 e8 e9
   rw[HC1.out]at hL
   go_roundw
   case rel=>
    refine⟨_,_,_,_,_,_,_,_,_,_,_,_,_,_,?_,rfl⟩
    exact⟨k+m1,by omega,by omega,by go_num,hL⟩
   case measure=>simp[intOf];omega
  ·obtain rfl:k=n:=by omega
   clear hlt
   go_wp2_with (first|(with_reducible first|refine lld hL ?_|((first|refine lbx hL ?_|refine lal hL ?_|refine lbs hL ?_);clear hL;intro bl w1 hL)|(refine zd hL ?_;clear hL;intro w1 hL)))
   (try simp only[Exit.inBlock,Exit.then]);refine rt1 ?_
   exact⟨r,rfl,hL.conv (by simp[QY])⟩
abbrev Kz:Res:=⟨true,zC,false,false,[]⟩
abbrev QP:Res:=⟨false,zC,false,false,[]⟩
abbrev XH:Gu:=⟨true,zC,false,false,zn⟩
theorem zX.rep {w:World}{g:Gu}{d:Res}(h:qq w g d):∀ n:Nat,zX w (List.replicate n g) (List.replicate n d)
 | 0=>zX.nil w
 | n+1=>by
  rw[List.replicate_succ,List.replicate_succ]
  exact(zX.one h).append (zX.rep h n)
theorem KZ (g:Gu):∀ n:Nat,(List.replicate n (Gu.cells g)).flatten=(List.replicate n g).flatMap Gu.cells
 | 0=>rfl
 | n+1=>by rw[List.replicate_succ,List.replicate_succ,List.flatten_cons,List.flatMap_cons,KZ g n]
def yj (nv nf nc:Nat):Pd:=⟨false,List.replicate nv Kz,List.replicate nc (List.replicate nf QP)⟩
theorem KA {α:Type}(x:α) (k:Nat):List.replicate (k+1) x=List.replicate k x++[x]:=List.replicate_succ'
theorem zcl (g:Gu) (d:Res) (hg:∀ w,qq w g d) (b n:Nat) (hn:n≤8) (w:World) (hh:w.heap[b]? = some (.cells (Gu.cells g).toArray 108 (0,0))):
  Calls Tryz.prog 137 #[.slice (some ⟨b,0,none⟩) 1 1,.int .i64 n] w fun e w'=>∃ (r:Sl) (gl:List Gu) (R:List zj),e=.returned r.v∧zM 108 7 r.p r.n r.cap (gl.flatMap Gu.cells) R∧Loc w w' R [fun w=>zX w gl (List.replicate n d)]:=by
 refine(zbD (Gu.cells g) rfl (fun u hu=>zgF (l:=[g]) u (by simpa using hu)) b n hn w hh).mono ?_
 rintro e w' ⟨r,rfl,hL⟩
 refine⟨⟨some ⟨r,0,none⟩,n,n⟩,List.replicate n g,_,rfl,zM.full (xs:=(List.replicate n g).flatMap Gu.cells) (by rw[← KZ,QH rfl]) (show n≤maxLen by have:maxLen=9223372036854775807:=rfl;omega),?_⟩
 rw[← KZ]
 exact hL.pure (fun w=>zX.rep (hg w) n)
theorem zdm (p:Pg) (nv nf:Nat) (hv:p.vars=nv) (hf:p.fields=nf) (h8:nv≤8) (h8' : nf≤8) (hn:p.n≤1000) (w:World):
  Calls Tryz.prog 96 #[p.v] w fun q w'=>∃ r:Pv,q=.returned r.v∧QX w w' r (yj nv nf p.n):=by
 have HRV:=Lib.hid (fun (b:Nat) w' hh=>zcl XH Kz (fun w=>⟨rfl,zp.nil w⟩) b nv h8 w' hh)
 have HRF:=Lib.hid (fun (b:Nat) w' hh=>zcl qu QP (fun w=>⟨rfl,zp.nil w⟩) b nf h8' w' hh)
 obtain⟨pv,pf,pp,pn,pc⟩:=p
 dsimp only at hv hf hn
 subst hv hf
 have HFV:=Lib.hid (show (yj nv nf pn).vars=List.replicate nv Kz from rfl)
 have HFF:=Lib.hid (show (yj nv nf pn).fields=List.replicate pn (List.replicate nf QP) from rfl)
 have HNX:=Lib.hid (fun k=>KA (List.replicate nf QP) k)
 have hL:=Loc.start w
 go_enter Tryz.func96,Tryz.ntmps96
 go_step
 go_step
 go_step
 ((with_reducible refine lbx hL ?_);clear hL;intro b1 w1 hL)
 ((with_reducible refine lal hL ?_);clear hL;intro b2 w1 hL)
 go_upto_region 2 with(first|(go_at_call 136;refine(jk _).mono ?_;rintro e w1 ⟨rfl,hb⟩;replace hL:=hL.grow hb;clear hb;dsimp only)|((with_reducible refine lal hL ?_);clear hL;intro b3 w1 hL)|(with_reducible refine zd hL ?_;clear hL;intro w1 hL))
 go_upto_region 4 with(first|((with_reducible refine lbs hL ?_);clear hL;intro b8 w1 hL)|(with_reducible first|refine lld hL ?_|(refine lal hL ?_;clear hL;intro bl w1 hL)|(refine zd hL ?_;clear hL;intro w1 hL))|(go_at_call 137;refine(HRV.out _ _ (hL.heap cIn)).mono ?_;rintro q w3 ⟨⟨vp,vn,vc⟩,gv,Rv,rfl,hSv,hLv⟩;replace hL:=hL.gave hLv;simp only[List.cons_append,List.nil_append]at hL;clear hLv;dsimp only))
 have HSV:=Lib.hid hSv
 clear hSv HRV
 dsimp only[Sl.v]at hL ⊢
 go_wp2_with (first|(with_reducible refine lld hL ?_))
 go_loopw [16] (fun c wr=>∃ (k:Nat) (hp:Option Addr) (hcap:Nat) (rs:List Sl) (gf:List (List Gu)) (Rh Rf:List zj),k≤pn∧c=.int .i64 k∧zM 51 1 hp k hcap (rs.flatMap Sl.row) Rh∧j9 rs gf Rf∧Loc w wr ((bl,54,[.bool false,.slice vp vn vc,.slice hp k hcap])::(b2,54,[.bool false,.slice none 0 0,.slice none 0 0])::(b1,27,[.int .i64 nv,.int .i64 nf,.slice pp pn pc])::(Rv++(Rf++Rh))) [fun w=>ju w gf (List.replicate k (List.replicate nf QP)),fun w=>zX w gv (List.replicate nv Kz)]) (fun c _=>pn - (intOf c).toNat)
 case atStart=>exact⟨0,none,0,[],[],[],[],Nat.zero_le _,rfl,zM.nil,.nil,((hL.drop (L':=(bl,54,[.bool false,.slice vp vn vc,.slice none 0 0])::(b2,54,[.bool false,.slice none 0 0,.slice none 0 0])::(b1,27,[.int .i64 nv,.int .i64 nf,.slice pp pn pc])::Rv) (.cons_cons _ (.cons _ (.cons _ (.cons_cons _ (.cons_cons _ (List.Sublist.refl _)))))) (fun _ h=>h)).conv (by simp)).pure (fun w=>ju.nil w)⟩
 case round=>
  obtain⟨k,hp,hcap,rs,gf,Rh,Rf,hk,rfl,hSh,hGf,hL⟩:=hrel
  have HSH:=Lib.hid hSh
  have HGF:=Lib.hid hGf
  clear hSh hGf
  by_cases hlt:k<pn
  ·obtain⟨wq,hwq⟩:∃ x,x=wr:=⟨_,rfl⟩
   subst hwq
   go_upto_region 6 with(fail)
   refine zf [18,19,20,21,22,23,24,25] ?_
   refine dv0 ?_
   refine dv1 0 ?_
   apply zb
   ·intro g w hb V;replace hL:=hL.grow hb;clear V;simp only[za,fLa,fLb,sTa,sTb]
    go_wp2_with (go_at_call 136;refine(jk _).mono ?_;rintro e w3 ⟨rfl,hb3⟩;dsimp only)
    exact⟨rfl,_,rfl,(by assumption),rfl⟩
   simp only[apN,apC]
   apply Jm
   ·intro g w hb V;replace hL:=hL.grow hb;have d2:=yv V 2;clear V;simp only[za,fLa,fLb,sTa,sTb];simp only[d2]
    go_wp2
    exact⟨rfl,_,rfl,(Below.refl _ _).alloc (Nat.le_refl _) _,_,hb.size,rfl,zI _ _⟩
   simp only[apN,apC]
   refine dv0 ?_
   refine dv1 4 ?_
   refine zh (Z1 wq (List.replicate nf QP)) Z1.stable ?_ ?_
   ·intro g w hb V;replace hL:=hL.grow hb;obtain⟨b3,e3,d3,f3⟩:=yC (zA V (j:=3) (by decide)) rfl rfl;have d5:=yv V 5;clear V;simp only[za,fLa,fLb,sTa,sTb];simp only[d3,d5]
    go_wp2_with (go_at_call 137;refine(HRF.out _ _ f3).mono ?_;rintro q w3 ⟨r,gl,R,rfl,hr,hl3⟩;dsimp only)
    exact⟨rfl,_,rfl,hl3.below,r,gl,R,rfl,hr,Loc.since hb hl3⟩
   simp only[apN,apC]
   refine zh (Ql wq (List.replicate nf QP)) Ql.stable ?_ ?_
   ·intro g w hb V;replace hL:=hL.grow hb;have d6:(Z1 wq (List.replicate nf QP)) (g 24) w:=yr V 6;obtain⟨q6,g6,Q6,d6,hq6,hO6⟩:=d6;clear V;simp only[za,fLa,fLb,sTa,sTb];simp only[d6]
    go_wp2_with (fail)
    exact⟨rfl,_,rfl,(Below.refl _ _).alloc (Nat.le_refl _) _,q6,g6,Q6,_,rfl,hq6,hO6.grow ((Below.refl _ _).alloc (Nat.le_refl _) _),zI _ _⟩
   simp only[apN,apC]
   refine zO hL (by kernel_rfl) (by kernel_rfl) ?_
   intro g w2 hb hR;simp only[List.length_cons,List.length_nil,Nat.reduceAdd]at hR
   have e0:=yv hR 0
   have e1:=yv hR 1
   have e2:=yv hR 2
   obtain⟨b3,p3,e3,c3⟩:=yC (zA hR (j:=3) (by decide)) rfl rfl
   have e4:=yv hR 4
   have e5:=yv hR 5
   have e6:(Z1 wq (List.replicate nf QP)) (g 24) w2:=yr hR 6
   obtain⟨q6,g6,Q6,e6,-,-⟩:=e6
   have e7:(Ql wq (List.replicate nf QP)) (g 25) w2:=yr hR 7
   obtain⟨qf,gq,Qf,bf,e7,hSf,hOf,hHf⟩:=e7
   clear hR;simp only[za,fLa,fLb,sTa,sTb]
   simp only[e0,e1,e2,e3,e4,e5,e6,e7]
   clear e0 e1 e2 e3 e4 e5 e6 e7
   clear p3 c3
   replace hL:=hL.gave hOf;simp only[List.cons_append,List.nil_append]at hL;clear hOf
   clear hb
   replace hL:=hL.perm ((((Z2 Rv Rf Rh Qf).cons _).cons _).cons _)
   go_wp2_with (first|(refine zz (z:=[.slice none 0 0]) (K:=(bl,_,_)::(b2,_,_)::(b1,_,_)::(Rv++(Rf++Qf))) (R:=Rh) (news:=Sl.row qf) HSH.out hL (by simp only[List.cons_append,List.append_assoc];rfl) rfl rfl XJ zeG (by decide) rfl (fun _=>⟨⟨bf,0,none⟩,rfl,fun j u hj=>by rw[zH,Nat.zero_add];exact zF hHf j hj⟩) rfl (by simp[Value.oneCell']) (by have:maxLen=9223372036854775807:=rfl;omega) (by omega) ?_;clear hL;intro p4 cap4 R4 w4 hS4 hL;simp only[List.cons_append,List.append_assoc]at hL)|(with_reducible refine zd hL ?_;clear hL;intro w1 hL))
   go_roundw
   case rel=>
    refine⟨k+1,p4,cap4,rs++[qf],gf++[gq],R4,Rf++Qf,by omega,by go_num,by simpa using hS4,HGF.out.snoc hSf,(hL.conv (by simp only[List.append_assoc])).both fun w h1 h2=>?_⟩
    rw[HNX.out]
    exact h2.snoc h1
   case measure=>simp[intOf];omega
  ·obtain rfl:k=pn:=by omega
   clear hlt
   go_wp2_with (first|(with_reducible first|refine lld hL ?_|(refine zd hL ?_;clear hL;intro w1 hL)))
   refine rt1 ?_
   exact⟨⟨false,⟨vp,vn,vc⟩,⟨hp,k,hcap⟩⟩,rfl,gv,gf,rs,Rv,Rh,Rf,rfl,⟨HSV.out,HSH.out,HGF.out⟩,(hL.both (U:=zS gv gf (yj nv nf k).vars (yj nv nf k).fields) fun w h1 h2=>⟨by rw[HFV.out];exact h2,by rw[HFF.out];exact h1⟩).drop (List.sublist_append_right [_,_,_] _) (fun _ h=>h)⟩
theorem zbE (p:Pg) (nv nf:Nat) (hv:p.vars=nv) (hf:p.fields=nf) (h8:nv≤8) (h8' : nf≤8) (hn:p.n≤1000) (w:World):
  Calls Tryz.prog 56 #[p.v] w fun q w'=>∃ r:Pv,q=.returned r.v∧QX w w' r (yj nv nf p.n):=by
 obtain⟨pv,pf,pp,pn,pc⟩:=p
 dsimp only at hv hf hn
 subst hv hf
 have HFV:=Lib.hid (show (yj nv nf pn).vars=List.replicate nv Kz from rfl)
 have HFF:=Lib.hid (show (yj nv nf pn).fields=List.replicate pn (List.replicate nf QP) from rfl)
 have HNX:=Lib.hid (fun k=>KA (List.replicate nf QP) k)
 have HNG:=Lib.hid (fun k=>KA qu k)
 have HNU:=Lib.hid (fun k=>KA XH k)
 have hL:=Loc.start w
 go_enter Tryz.func56,Tryz.ntmps56
 go_step
 go_step
 go_step
 ((with_reducible refine lbx hL ?_);clear hL;intro b1 w1 hL)
 ((with_reducible refine lal hL ?_);clear hL;intro b2 w1 hL)
 go_upto_region 2 with(first|((with_reducible refine lal hL ?_);clear hL;intro b3 w1 hL))
 go_wp2
 go_loopw [4] (fun c wr=>∃ (k:Nat) (vp:Option Addr) (vc:Nat) (Rv:List zj),k≤nv∧c=.int .i64 k∧zM 108 7 vp k vc ((List.replicate k XH).flatMap Gu.cells) Rv∧Loc w wr ((b3,54,[.bool false,.slice vp k vc,.slice none 0 0])::(b2,54,[.bool false,.slice none 0 0,.slice none 0 0])::(b1,27,[.int .i64 nv,.int .i64 nf,.slice pp pn pc])::Rv) []) (fun c _=>nv - (intOf c).toNat)
 case atStart=>exact⟨0,none,0,[],Nat.zero_le _,rfl,zM.nil,hL.conv (by simp)⟩
 case round=>
  obtain⟨k,vp,vc,Rv,hk,rfl,hSv,hL⟩:=hrel
  have HSV:=Lib.hid hSv
  clear hSv
  by_cases hlt:k<nv
  ·go_upto_region 6 with(first|(go_at_call 78;refine(zt _).mono ?_;rintro e w1 ⟨rfl,hb⟩;replace hL:=hL.grow hb;clear hb;dsimp only)|((with_reducible refine lal hL ?_);clear hL;intro b5 w1 hL)|(with_reducible first|refine lld hL ?_|(refine zd hL ?_;clear hL;intro w1 hL)))
   go_wp2_with (first|((with_reducible refine lbs hL ?_);clear hL;intro b9 w1 hL)|(refine zz (z:=Jw) (K:=(b9,_,_)::(b5,_,_)::(b3,_,_)::(b2,_,_)::(b1,_,_)::[]) (R:=Rv) (news:=Gu.cells XH) HSV.out hL (by simp only[List.cons_append,List.nil_append];rfl) rfl rfl jO Z9 (by decide) rfl (fun _=>⟨⟨b9,0,none⟩,rfl,fun j u hj=>by rw[zH,Nat.zero_add];exact zF (hL.heap (b:=b9) cIn) j hj⟩) rfl (by simp[Value.oneCell']) (by have:maxLen=9223372036854775807:=rfl;omega) (by omega) ?_;clear hL;intro p4 cap4 R4 w4 hS4 hL;simp only[List.cons_append,List.nil_append]at hL)|(with_reducible first|refine lld hL ?_|(refine zd hL ?_;clear hL;intro w1 hL)))
   go_roundw
   case rel=>
    refine⟨k+1,p4,cap4,R4,by omega,by go_num,by rw[HNU.out,List.flatMap_append];simpa using hS4,hL.drop (.cons _ (.cons _ (List.Sublist.refl _))) (fun _ h=>h)⟩
   case measure=>simp[intOf];omega
  ·obtain rfl:k=nv:=by omega
   clear hlt
   replace hL:=hL.pure (S:=fun w=>zX w (List.replicate k XH) (List.replicate k Kz)) (fun w=>zX.rep ⟨rfl,zp.nil w⟩ k)
   generalize List.replicate k XH=gv at hL HSV
   go_wp2_with (first|(with_reducible refine lld hL ?_))
   go_loopw [6] (fun c wr=>∃ (k' : Nat) (hp:Option Addr) (hcap:Nat) (rs:List Sl) (gf:List (List Gu)) (Rh Rf:List zj),k'≤pn∧c=.int .i64 k'∧zM 51 1 hp k' hcap (rs.flatMap Sl.row) Rh∧j9 rs gf Rf∧Loc w wr ((b3,54,[.bool false,.slice vp k vc,.slice hp k' hcap])::(b2,54,[.bool false,.slice none 0 0,.slice none 0 0])::(b1,27,[.int .i64 k,.int .i64 nf,.slice pp pn pc])::(Rv++(Rf++Rh))) [fun w=>ju w gf (List.replicate k' (List.replicate nf QP)),fun w=>zX w gv (List.replicate k Kz)]) (fun c _=>pn - (intOf c).toNat)
   case atStart=>exact⟨0,none,0,[],[],[],[],Nat.zero_le _,rfl,zM.nil,.nil,(hL.conv (by simp)).pure (fun w=>ju.nil w)⟩
   case round=>
    obtain⟨m,hp,hcap,rs,gf,Rh,Rf,hm,rfl,hSh,hGf,hL⟩:=hrel
    have HSH:=Lib.hid hSh
    have HGF:=Lib.hid hGf
    clear hSh hGf
    by_cases hlt:m<pn
    ·go_wp2_with (first|(with_reducible refine lld hL ?_))
     go_loopw [7,8] (fun c7 c8 wr=>∃ (j:Nat) (p7:Option Addr) (cap7:Nat) (R7:List zj),j≤nf∧c7=.slice p7 j cap7∧c8=.int .i64 j∧zM 108 7 p7 j cap7 ((List.replicate j qu).flatMap Gu.cells) R7∧Loc w wr ((b3,54,[.bool false,.slice vp k vc,.slice hp m hcap])::(b2,54,[.bool false,.slice none 0 0,.slice none 0 0])::(b1,27,[.int .i64 k,.int .i64 nf,.slice pp pn pc])::((Rv++(Rf++Rh))++R7)) [fun w=>ju w gf (List.replicate m (List.replicate nf QP)),fun w=>zX w gv (List.replicate k Kz)]) (fun _ c _=>nf - (intOf c).toNat)
     case atStart=>exact⟨0,none,0,[],Nat.zero_le _,rfl,rfl,zM.nil,hL.conv (by simp)⟩
     case round=>
      obtain⟨j,p7,cap7,R7,hj,rfl,rfl,hS7,hL⟩:=hrel
      have HS7:=Lib.hid hS7
      clear hS7
      by_cases hlt3:j<nf
      ·go_wp2_with (first|(go_at_call 78;refine(zt _).mono ?_;rintro e w1 ⟨rfl,hb⟩;replace hL:=hL.grow hb;clear hb;dsimp only)|((with_reducible refine lbs hL ?_);clear hL;intro b9 w1 hL)|(refine zz (z:=Jw) (K:=(b9,_,_)::(b3,_,_)::(b2,_,_)::(b1,_,_)::(Rv++(Rf++Rh))) (R:=R7) (news:=Gu.cells qu) HS7.out hL (by simp only[List.cons_append,List.append_assoc];rfl) rfl rfl jO Z9 (by decide) rfl (fun _=>⟨⟨b9,0,none⟩,rfl,fun j u hj=>by rw[zH,Nat.zero_add];exact zF (hL.heap (b:=b9) cIn) j hj⟩) rfl (by simp[Value.oneCell']) (by have:maxLen=9223372036854775807:=rfl;omega) (by omega) ?_;clear hL;intro p4 cap4 R4 w4 hS4 hL;simp only[List.cons_append,List.nil_append]at hL)|(with_reducible refine lld hL ?_))
       go_roundw
       case rel=>
        refine⟨j+1,p4,cap4,R4,by omega,rfl,by go_num,by rw[HNG.out,List.flatMap_append];simpa using hS4,hL.drop (.cons _ (List.Sublist.refl _)) (fun _ h=>h)⟩
       case measure=>simp[intOf];omega
      ·obtain rfl:j=nf:=by omega
       clear hlt3
       replace hL:=(hL.perm ((((Z2 Rv Rf Rh R7).cons _).cons _).cons _)).pure (S:=fun w=>zX w (List.replicate j qu) (List.replicate j QP)) (fun w=>zX.rep ⟨rfl,zp.nil w⟩ j)
       generalize List.replicate j qu=g7 at hL HS7
       go_wp2_with (first|((with_reducible refine lbs hL ?_);clear hL;intro b9 w1 hL)|(refine zz (z:=[.slice none 0 0]) (K:=(b9,_,_)::(b3,_,_)::(b2,_,_)::(b1,_,_)::(Rv++(Rf++R7))) (R:=Rh) (news:=Sl.row ⟨p7,j,cap7⟩) HSH.out hL (by simp only[List.cons_append,List.append_assoc];rfl) rfl rfl XJ zeG (by decide) rfl (fun _=>⟨⟨b9,0,none⟩,rfl,fun j u hj=>by rw[zH,Nat.zero_add];exact zF (hL.heap (b:=b9) cIn) j hj⟩) rfl (by simp[Value.oneCell']) (by have:maxLen=9223372036854775807:=rfl;omega) (by omega) ?_;clear hL;intro p4 cap4 R4 w4 hS4 hL;simp only[List.cons_append,List.append_assoc]at hL)|(with_reducible first|refine lld hL ?_|(refine zd hL ?_;clear hL;intro w1 hL)))
       go_roundw
       case rel=>
        refine⟨m+1,p4,cap4,rs++[⟨p7,j,cap7⟩],gf++[g7],R4,Rf++R7,by omega,by go_num,by simpa using hS4,HGF.out.snoc HS7.out,((hL.drop (.cons _ (List.Sublist.refl _)) (fun _ h=>h)).conv (by simp only[List.append_assoc])).both fun w h1 h2=>?_⟩
        rw[HNX.out]
        exact h2.snoc h1
       case measure=>simp[intOf];omega
    ·obtain rfl:m=pn:=by omega
     clear hlt
     go_wp2_with (first|(with_reducible first|refine lld hL ?_|(refine zd hL ?_;clear hL;intro w1 hL)))
     refine rt1 ?_
     exact⟨⟨false,⟨vp,k,vc⟩,⟨hp,m,hcap⟩⟩,rfl,gv,gf,rs,Rv,Rh,Rf,rfl,⟨HSV.out,HSH.out,HGF.out⟩,(hL.both (U:=zS gv gf (yj k nf m).vars (yj k nf m).fields) fun w h1 h2=>⟨by rw[HFV.out];exact h2,by rw[HFF.out];exact h1⟩).drop (List.sublist_append_right [_,_,_] _) (fun _ h=>h)⟩
end Go.Proofs.YtplcndmdkabmeaaGreatDoor
