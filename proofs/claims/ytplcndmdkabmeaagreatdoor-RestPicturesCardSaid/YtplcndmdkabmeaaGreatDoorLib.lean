/- Maps with whole numbers for keys: made, filled with keys that are new, looked into. Over any program. Conditions: none. -/
import Derived.Test.YtplcndmdkabmeaaGreatDoorRows
import Derived.WalkKit
import Derived.WalkSpells
import Derived.WalkLawsBesides
import Derived.Lib.Hide
import Derived.LoopN
import Derived.Deep.RegionHeld3
import Derived.Laws.MakeOwn
import Derived.StillTail
set_option linter.unusedSimpArgs false
set_option linter.unusedVariables false
set_option maxRecDepth 100000
namespace Go.Proofs.YtplcndmdkabmeaaGreatDoor
open Go.Proofs.Tryz
open Go.RowKit
def jd (n:Int):Bool:=decide (-2147483648<=n)&&decide (n<=2147483647)
structure zm where
 none:Bool
 lo:Int
 hi:Int
abbrev zm.v (s:zm):Value:=.agg #[.bool s.none,.int .i64 s.lo,.int .i64 s.hi]
abbrev zA:zm:=⟨true,0,0⟩
abbrev zaf:zm:=⟨false,0,0⟩
def zh (s:zm):Int:=if !(jd s.lo) || !(jd s.hi) then 3 else if s.none&&(s.lo != 0 || s.hi != 0) then 1 else if s.hi<s.lo then 4 else 0
def jE (s:zm) (n:Int):Bool:=!s.none&&(decide (s.lo<=n)&&decide (n<=s.hi))
def both (s t:zm):zm:=if s.none then t else if t.none then s else ⟨false,min s.lo t.lo,max s.hi t.hi⟩
def q4 (s t:zm):zm:=if s.none || t.none || decide (min s.hi t.hi<max s.lo t.lo) then zA else ⟨false,max s.lo t.lo,min s.hi t.hi⟩
def yt (s t:zm):Bool:=s.none || (!t.none&&decide (t.lo<=s.lo)&&decide (s.hi<=t.hi))
def jf (s t:zm):zm:=if s.none || t.none then both s t else ⟨false,if t.lo<s.lo then -2147483648 else min s.lo t.lo,if s.hi<t.hi then 2147483647 else max s.hi t.hi⟩
def min2 (a b:Int):Int:=if b<a then b else a
def max2 (a b:Int):Int:=if b > a then b else a
def K0 (a b c d:Int):Int:=min2 (min2 (min2 a b) c) d
def K1 (a b c d:Int):Int:=max2 (max2 (max2 a b) c) d
def jx (kind:Int) (s t:zm):Int × Int:=
 if kind=6 then (s.lo - t.hi,s.hi - t.lo) else if kind=7 then (K0 (s.lo*t.lo) (s.lo*t.hi) (s.hi*t.lo) (s.hi*t.hi),K1 (s.lo*t.lo) (s.lo*t.hi) (s.hi*t.lo) (s.hi*t.hi)) else (s.lo+t.lo,s.hi+t.hi)
def made (kind:Int) (s t:zm):zm:=
 if s.none || t.none then zA else if jd (jx kind s t).1&&jd (jx kind s t).2 then ⟨false,(jx kind s t).1,(jx kind s t).2⟩ else ⟨false,-2147483648,2147483647⟩
theorem j9 {n:Int}:jd n=true↔-2147483648<=n∧n<=2147483647:=by simp[jd]
abbrev zg:=Nat × TypeId × List Value
abbrev zl:=World->Prop
def On (w:World) (X:Nat->Prop) (S:zl):Prop:=∀ p : World,(∀ b,X b->p.heap[b]? = w.heap[b]?)->S p
def zag (w w1:World) (S:zl):Prop:=∃ X:Nat->Prop,(∀ b,X b->w.heap.size<=b∧b<w1.heap.size)∧On w1 X S
structure Loc (w0 w:World) (L:List zg) (D:List zl):Prop where
 below:Below w0.heap.size w0 w
 nodup:(L.map (·.1)).Nodup
 ids:∀ e∈L,w0.heap.size<=e.1
 cells:∀ e∈L,w.heap[e.1]? = some (.cells e.2.2.toArray e.2.1 (0,0))
 data:∀ S∈D,∃ X:Nat->Prop,(∀ b,X b->(b<w.heap.size∧w0.heap.size<=b)∧∀ e∈L,e.1≠b)∧On w X S
theorem Loc.start (w:World):Loc w w [] []:=
 ⟨Below.refl _ _,by simp,by simp,by simp,by simp⟩
theorem Loc.size {w0 w:World}{L D}(h:Loc w0 w L D):w0.heap.size<=w.heap.size:=h.below.size
theorem zz {w:World}{b:Nat}{o:Obj}(h:w.heap[b]? = some o):b<w.heap.size:=by
 rcases Nat.lt_or_ge b w.heap.size with p|p
 ·exact p
 ·rw[Array.getElem?_eq_none p]at h;cases h
theorem Loc.get {w0 w:World}{L D}(h:Loc w0 w L D) {S:zl}(p:S∈D):S w:=by
 obtain⟨X,_,I⟩:=h.data S p;exact I w (fun _ _=>rfl)
theorem Loc.grow {w0 w w1:World}{L D}(h:Loc w0 w L D) (hb:Below w.heap.size w w1):Loc w0 w1 L D:=by
 refine⟨h.below.trans (hb.mono h.size),h.nodup,h.ids,fun e T=>?_,fun S aa=>?_⟩
 ·rw[hb.block _ (zz (h.cells e T))];exact h.cells e T
 ·obtain⟨X,I,U⟩:=h.data S aa
  refine⟨X,fun b p=>⟨⟨Nat.lt_of_lt_of_le (I b p).1.1 hb.size,(I b p).1.2⟩,(I b p).2⟩,fun ac ab=>U ac fun b p=>?_⟩;rw[ab b p,hb.block _ (I b p).1.1]
theorem Loc.more {w0 w w1:World}{L D}(h:Loc w0 w L D) (hb:Below w.heap.size w w1) {S:zl}(ac:zag w w1 S):Loc w0 w1 L (S::D):=by
 have p:=h.grow hb;refine⟨p.below,p.nodup,p.ids,p.cells,fun aa I=>?_⟩;rcases List.mem_cons.1 I with rfl|I
 ·obtain⟨X,T,ab⟩:=ac
  exact⟨X,fun b U=>⟨⟨(T b U).2,Nat.le_trans h.size (T b U).1⟩,fun e ad ae=>by have:=zz (h.cells e ad);have:=(T b U).1;omega⟩,ab⟩
 ·exact p.data aa I
theorem Loc.moreAll {w0 w w1:World}{L D}(h:Loc w0 w L D) (hb:Below w.heap.size w w1) {Ds:List zl}(ac:∀ S∈Ds,zag w w1 S):Loc w0 w1 L (Ds++D):=by
 have p:=h.grow hb;refine⟨p.below,p.nodup,p.ids,p.cells,fun aa I=>?_⟩;rcases List.mem_append.1 I with I | I
 ·obtain⟨X,T,ab⟩:=ac aa I
  exact⟨X,fun b U=>⟨⟨(T b U).2,Nat.le_trans h.size (T b U).1⟩,fun e ad ae=>by have:=zz (h.cells e ad);have:=(T b U).1;omega⟩,ab⟩
 ·exact p.data aa I
def y6 (b:Nat) (T:TypeId) (p:List Value):zl:=fun w=>w.heap[b]? = some (.cells p.toArray T (0,0))
theorem y6.fresh {w w1:World}{b:Nat}{T:TypeId}{p:List Value}(U:w.heap.size<=b) (I:w1.heap[b]? = some (.cells p.toArray T (0,0))):zag w w1 (y6 b T p):=
 ⟨fun k=>k=b,fun k aa=>by subst aa;exact⟨U,zz I⟩,fun ac ab=>by show ac.heap[b]? = _;rw[ab b rfl];exact I⟩
theorem Loc.drop {w0 w:World}{L L' D D'}(h:Loc w0 w L D) (J:L'.Sublist L) (U:∀ S∈D',S∈D):Loc w0 w L' D':=
 ⟨h.below,(J.map _).nodup h.nodup,fun e p=>h.ids e (J.subset p),fun e p=>h.cells e (J.subset p),fun S ab=>by
  obtain⟨X,I,aa⟩:=h.data S (U S ab);exact⟨X,fun b T=>⟨(I b T).1,fun e p=>(I b T).2 e (J.subset p)⟩,aa⟩⟩
theorem Loc.box {w0 w:World}{L D}(h:Loc w0 w L D) (T:TypeId) (aa:List Value):Loc w0 (w.alloc (.cells aa.toArray T)) ((w.heap.size,T,aa)::L) D:=by
 have ab:=h.grow ((Below.refl _ _).alloc (Nat.le_refl _) (.cells aa.toArray T));refine⟨ab.below,?_,?_,?_,?_⟩
 ·simp only[List.map_cons,List.nodup_cons]
  refine⟨fun ae=>?_,h.nodup⟩;obtain⟨e,p,ah⟩:=List.mem_map.1 ae;have:=zz (h.cells e p);omega
 ·intro e p
  rcases List.mem_cons.1 p with rfl|p
  ·exact h.size
  ·exact h.ids e p
 ·intro e p
  rcases List.mem_cons.1 p with rfl|p
  ·show (w.heap.push _)[w.heap.size]? = _;simp
  ·exact ab.cells e p
 ·intro S ad
  obtain⟨X,U,ac⟩:=h.data S ad;refine⟨X,fun b I=>⟨⟨by have:=(U b I).1.1;simp;omega,(U b I).1.2⟩,fun e p=>?_⟩,fun ag af=>ac ag fun b I=>?_⟩
  ·rcases List.mem_cons.1 p with rfl|p
   ·have:=(U b I).1.1;show w.heap.size≠b;omega
   ·exact(U b I).2 e p
  ·rw[af b I,Below.heap_alloc _ _ _ (U b I).1.1]
theorem Loc.drew {w0 w:World}{L D}(h:Loc w0 w L D):Loc w0 w.drew L D:=h.grow ((Below.refl _ _).drew)
inductive InL (b:Nat) (T:TypeId) (cs:List Value):List zg->(List Value->List zg)->Prop where
 | head {L:List zg}:InL b T cs ((b,T,cs)::L) (fun c=>(b,T,c)::L)
 | tail {L:List zg} {f:List Value->List zg} (x:zg) (h:InL b T cs L f):InL b T cs (x::L) (fun c=>x::f c)
theorem InL.mem {b T cs L f}(h:InL b T cs L f):(b,T,cs)∈L:=by
 induction h with
 | head=>exact List.mem_cons_self
 | tail x _ ih=>exact List.mem_cons_of_mem _ ih
theorem InL.ids {b T cs L f}(h:InL b T cs L f) (c:List Value):(f c).map (·.1)=L.map (·.1):=by
 induction h with
 | head=>rfl
 | tail x _ ih=>simp[ih]
theorem InL.memf {b T cs L f}(h:InL b T cs L f) (c:List Value) (hn:(L.map (·.1)).Nodup) {e:zg}(p:e∈f c):e=(b,T,c)∨(e∈L∧e.1≠b):=by
 induction h with
 | @head L=>
  rcases List.mem_cons.1 p with rfl|p
  ·exact .inl rfl
  ·simp only[List.map_cons,List.nodup_cons]at hn
   exact .inr ⟨List.mem_cons_of_mem _ p,fun U=>hn.1 (List.mem_map.2 ⟨e,p,U⟩)⟩
 | tail x h ih=>
  simp only[List.map_cons,List.nodup_cons]at hn;rcases List.mem_cons.1 p with rfl|p
  ·exact .inr ⟨List.mem_cons_self,fun U=>hn.1 (List.mem_map.2 ⟨_,h.mem,U.symm⟩)⟩
  ·rcases ih hn.2 p with I|⟨I,aa⟩
   ·exact .inl I
   ·exact .inr ⟨List.mem_cons_of_mem _ I,aa⟩
theorem Loc.only {w0 w:World}{L D b T cs f}(h:Loc w0 w L D) (I:InL b T cs L f):Loc w0 w [(b,T,cs)] []:=
 ⟨h.below,by simp,fun e p=>by rw[List.mem_singleton.1 p];exact h.ids _ I.mem,fun e p=>by rw[List.mem_singleton.1 p];exact h.cells _ I.mem,by simp⟩
theorem Loc.conv {w0 w:World}{L L' D}(h:Loc w0 w L D) (e:L=L'):Loc w0 w L' D:=e▸h
theorem Loc.heap {w0 w:World}{L D b T cs f}(h:Loc w0 w L D) (p:InL b T cs L f):w.heap[b]? = some (.cells cs.toArray T (0,0)):=h.cells _ p.mem
theorem Loc.cell {w0 w:World}{L D b T cs f}(h:Loc w0 w L D) (p:InL b T cs L f) (j:Nat):w.cell? ⟨b,j,none⟩=cs[j]? :=by
 simp[World.cell?,h.heap p]
theorem Loc.all {w0 w:World}{L D}(h:Loc w0 w L D):∀ e∈L,∀ j,w.cell? ⟨e.1,j,none⟩=e.2.2[j]? :=fun e p j=>by
 simp[World.cell?,h.cells e p]
theorem Loc.gain {w0 w w1:World}{L D}(h:Loc w0 w L D) (hb:Below w.heap.size w w1) {b:Nat}{T:TypeId}{aa:List Value}(af:w.heap.size<=b) (hc:w1.heap[b]? = some (.cells aa.toArray T (0,0))):Loc w0 w1 ((b,T,aa)::L) D:=by
 have ab:=h.grow hb;refine⟨ab.below,?_,?_,?_,?_⟩
 ·simp only[List.map_cons,List.nodup_cons]
  refine⟨fun ae=>?_,h.nodup⟩;obtain⟨e,p,ai⟩:=List.mem_map.1 ae;have:=zz (h.cells e p);omega
 ·intro e p
  rcases List.mem_cons.1 p with rfl|p
  ·exact Nat.le_trans h.size af
  ·exact h.ids e p
 ·intro e p
  rcases List.mem_cons.1 p with rfl|p
  ·exact hc
  ·exact ab.cells e p
 ·intro S ad
  obtain⟨X,U,ac⟩:=h.data S ad;refine⟨X,fun k I=>⟨⟨Nat.lt_of_lt_of_le (U k I).1.1 hb.size,(U k I).1.2⟩,fun e p=>?_⟩,fun ah ag=>ac ah fun k I=>?_⟩
  ·rcases List.mem_cons.1 p with rfl|p
   ·have:=(U k I).1.1;show b≠k;omega
   ·exact(U k I).2 e p
  ·rw[ag k I,hb.block _ (U k I).1.1]
def zhy (S:World->Prop) (w:World):Prop:=S w
theorem Loc.hold {w0 w:World}{L D}(h:Loc w0 w L D):∃ S:World->Prop,(∀ p,zhy S p->∀ e∈L,∀ j,p.cell? ⟨e.1,j,none⟩=e.2.2[j]?)∧(∀ p,zhy S p->Loc w0 p L D)∧
  (∀ p,Below w.heap.size w p->zhy S p):=
 ⟨fun p=>Below w.heap.size w p,fun _ I=>(h.grow I).all,fun _ I=>h.grow I,fun _ h=>h⟩
theorem Loc.put {w0 w w1:World}{L D b T cs f}(h:Loc w0 w L D) (I:InL b T cs L f) (c:List Value) (aj:w1.os=w.os) (ht:w1.tape=w.tape) (ai:w1.output=w.output)
  (ae:w.heap.size<=w1.heap.size) (hb:w1.heap[b]? = some (.cells c.toArray T (0,0))) (ad:∀ k,k<w.heap.size->k≠b->w1.heap[k]? = w.heap[k]?):Loc w0 w1 (f c) D:=by
 have hid:w0.heap.size<=b:=h.ids _ I.mem;refine⟨⟨aj.trans h.below.os,ht.trans h.below.tape,ai.trans h.below.output,Nat.le_trans h.size ae,fun k ac=>?_⟩,by rw[I.ids];exact h.nodup,fun e ab=>?_,fun e ab=>?_,fun S ah=>?_⟩
 ·rw[ad k (Nat.lt_of_lt_of_le ac h.size) (by omega)];exact h.below.block k ac
 ·rcases I.memf c h.nodup ab with rfl|⟨U,_⟩
  ·exact hid
  ·exact h.ids e U
 ·rcases I.memf c h.nodup ab with rfl|⟨U,af⟩
  ·exact hb
  ·rw[ad _ (zz (h.cells e U)) af];exact h.cells e U
 ·obtain⟨X,aa,ag⟩:=h.data S ah
  refine⟨X,fun k p=>⟨⟨Nat.lt_of_lt_of_le (aa k p).1.1 ae,(aa k p).1.2⟩,fun e ab=>?_⟩,fun al ak=>ag al fun k p=>?_⟩
  ·rcases I.memf c h.nodup ab with rfl|⟨U,_⟩
   ·exact(aa k p).2 (b,T,cs) I.mem
   ·exact(aa k p).2 e U
  ·rw[ak k p,ad k (aa k p).1.1 (fun ac=>(aa k p).2 _ I.mem ac.symm)]
theorem Loc.gave {w0 w w1:World}{L R:List zg}{D D' : List zl}(h:Loc w0 w L D) (g:Loc w w1 R D'):Loc w0 w1 (L++R) (D'++D):=by
 have ab:=h.grow g.below;refine⟨ab.below,?_,?_,?_,?_⟩
 ·rw[List.map_append,List.nodup_append]
  refine⟨h.nodup,g.nodup,fun a ad b af ae=>?_⟩;subst ae;obtain⟨e,p,aj⟩:=List.mem_map.1 ad;obtain⟨ac,ag,ak⟩:=List.mem_map.1 af;have:=zz (h.cells e p);have:=g.ids ac ag;omega
 ·intro e p
  rcases List.mem_append.1 p with p|p
  ·exact h.ids e p
  ·exact Nat.le_trans h.size (g.ids e p)
 ·intro e p
  rcases List.mem_append.1 p with p|p
  ·exact ab.cells e p
  ·exact g.cells e p
 ·intro S U
  rcases List.mem_append.1 U with U|U
  ·obtain⟨X,T,aa⟩:=g.data S U
   refine⟨X,fun k I=>⟨⟨(T k I).1.1,Nat.le_trans h.size (T k I).1.2⟩,fun e p=>?_⟩,aa⟩;rcases List.mem_append.1 p with p|p
   ·have:=zz (h.cells e p)
    have:=(T k I).1.2;omega
   ·exact(T k I).2 e p
  ·obtain⟨X,T,aa⟩:=h.data S U
   refine⟨X,fun k I=>⟨⟨Nat.lt_of_lt_of_le (T k I).1.1 g.below.size,(T k I).1.2⟩,fun e p=>?_⟩,fun ai ah=>aa ai fun k I=>?_⟩
   ·rcases List.mem_append.1 p with p|p
    ·exact(T k I).2 e p
    ·have:=g.ids e p
     have:=(T k I).1.1;omega
   ·rw[ah k I,g.below.block _ (T k I).1.1]
theorem On.and {w:World}{X Y:Nat->Prop}{S T U:zl}(ab:On w X S) (ac:On w Y T) (h:∀ w,S w->T w->U w):On w (fun b=>X b∨Y b) U:=
 fun I aa=>h I (ab I fun b p=>aa b (.inl p)) (ac I fun b p=>aa b (.inr p))
theorem Loc.both {w0 w:World}{L:List zg}{D:List zl}{S T U:zl}(h:Loc w0 w L (S::T::D)) (ae:∀ w,S w->T w->U w):Loc w0 w L (U::D):=by
 refine⟨h.below,h.nodup,h.ids,h.cells,fun V I=>?_⟩;rcases List.mem_cons.1 I with rfl|I
 ·obtain⟨X,ac,aa⟩:=h.data S List.mem_cons_self
  obtain⟨Y,ad,ab⟩:=h.data T (List.mem_cons_of_mem _ List.mem_cons_self);refine⟨_,fun b p=>?_,aa.and ab ae⟩;rcases p with p|p
  ·exact ac b p
  ·exact ad b p
 ·exact h.data V (List.mem_cons_of_mem _ (List.mem_cons_of_mem _ I))
theorem Loc.turn {w0 w:World}{L:List zg}{D:List zl}{S U:zl}(h:Loc w0 w L (S::D)) (ab:∀ w,S w->U w):Loc w0 w L (U::D):=by
 refine⟨h.below,h.nodup,h.ids,h.cells,fun V p=>?_⟩;rcases List.mem_cons.1 p with rfl|p
 ·obtain⟨X,aa,T⟩:=h.data S List.mem_cons_self
  exact⟨X,aa,fun I ac=>ab I (T I ac)⟩
 ·exact h.data V (List.mem_cons_of_mem _ p)
theorem Loc.pure {w0 w:World}{L:List zg}{D:List zl}{S:zl}(h:Loc w0 w L D) (I:∀ w,S w):Loc w0 w L (S::D):=by
 refine⟨h.below,h.nodup,h.ids,h.cells,fun V p=>?_⟩;rcases List.mem_cons.1 p with rfl|p
 ·exact⟨fun _=>False,fun _ h=>h.elim,fun T _=>I T⟩
 ·exact h.data V p
theorem Loc.fact {w0 w:World}{K R:List zg}{D:List zl}{S:zl}(h:Loc w0 w (K++R) D) (U:∀ T,(∀ e∈R,T.heap[e.1]? = some (.cells e.2.2.toArray e.2.1 (0,0)))->S T):Loc w0 w K (S::D):=by
 have I:Loc w0 w K D:=h.drop (List.sublist_append_left _ _) (fun S U=>U);refine⟨I.below,I.nodup,I.ids,I.cells,fun V aa=>?_⟩;rcases List.mem_cons.1 aa with rfl|aa
 ·refine⟨fun b=>∃ e∈R,e.1=b,fun b ⟨e,p,ae⟩=>?_,fun T ag=>U T fun e p=>?_⟩
  ·subst ae
   refine⟨⟨zz (h.cells e (List.mem_append_right _ p)),h.ids e (List.mem_append_right _ p)⟩,fun ab ad af=>?_⟩;have ac:=h.nodup;rw[List.map_append,List.nodup_append]at ac;exact ac.2.2 ab.1 (List.mem_map.2 ⟨ab,ad,rfl⟩) e.1 (List.mem_map.2 ⟨e,p,rfl⟩) af
  ·rw[ag e.1 ⟨e,p,rfl⟩]
   exact h.cells e (List.mem_append_right _ p)
 ·exact I.data V aa
theorem Loc.facts {w0 w:World}{K R:List zg}{D:List zl}{S T:zl}(h:Loc w0 w (K++R) (T::D)) (U:∀ p,(∀ e∈R,p.heap[e.1]? = some (.cells e.2.2.toArray e.2.1 (0,0)))->T p->S p):Loc w0 w K (S::D):=by
 have I:Loc w0 w K ((fun p : World=>∀ e∈R,p.heap[e.1]? = some (.cells e.2.2.toArray e.2.1 (0,0)))::T::D):=h.fact (fun _ h=>h);exact I.both U
section
variable {P : Program} {ops : Array Oper} {Q : Exit -> Act -> World -> Prop} {a : Act} {w0 w : World} {rest : List Oper} {L : List zg} {D : List zl}
 {d:Option Tmp} {ty:TypeId} {pos:String} {after:Array Edge} {g:Option (Nat × Bool)}
theorem qp {o:Oper}{v:Value}{w' : World}(T:Region.wanted o (yielded ops a.tmps)=true) (I:(execOp a.eval o).run P w=.ok (.value v) w')
  (h:wpList P ops Q rest (a.put o.dst v) w'):wpList P ops Q (o::rest) a w:=
 wpList_step fun _ p=>by rw[if_pos T];unfold Oper.wp;rw[I];exact p _ _ h
theorem Jm {o:Oper}{w' : World}(T:Region.wanted o (yielded ops a.tmps)=true) (I:(execOp a.eval o).run P w=.ok .skip w')
  (h:wpList P ops Q rest (a.put o.dst undef) w'):wpList P ops Q (o::rest) a w:=
 wpList_step fun _ p=>by rw[if_pos T];unfold Oper.wp;rw[I];exact p _ _ h
theorem Uu {op:Op}{y:Nat->Option Bool}:Region.wanted ⟨d,op,ty,pos,after,none⟩ y=true:=rfl
theorem zhk {op:Op}{p:Array Value}{j:Nat}{b:Bool}{t:Tmp}(I:(ops[j]?).bind (·.dst)=some t) (T:p[t]? = some (.bool b)):
  Region.wanted ⟨d,op,ty,pos,after,some (j,b)⟩ (yielded ops p)=true:=by
 simp[Region.wanted,yielded,I,T]
structure jy (P:Program) (T:TypeId):Prop where
 flat:(P.underlying T).map (fun d=>match d with|.struct _|.array _ _=>true|_=>false)=some false
 size:(P.info? T).map (·.size)=some 1
structure Ye (P:Program) (T:TypeId) (n:Nat):Prop where
 flat:(P.underlying T).map (fun d=>match d with|.struct _|.array _ _=>true|_=>false)=some true
 size:(P.info? T).map (·.size)=some n
structure yx (P:Program) (T:TypeId) (cs:List Value):Prop where
 zero:((P.info? T).bind (·.zero)).map (fun z=>z.cells.toList)=some cs
structure Y9 (P:Program) (T:TypeId) (n:Nat):Prop where
 size:(P.info? T).map (·.size)=some n
theorem jy.sz {P:Program}{T:TypeId}(h:jy P T):Y9 P T 1:=⟨h.size⟩
theorem Ye.sz {P:Program}{T:TypeId}{n:Nat}(h:Ye P T n):Y9 P T n:=⟨h.size⟩
theorem QI {T:TypeId}{b:Bool}(h:(P.underlying T).map (fun d=>match d with|.struct _|.array _ _=>true|_=>false)=some b) (w:World):(isAgg T).run P w=.ok b w:=by
 cases p:P.underlying T with
 | none=>simp[p]at h
 | some d=>
  simp only[p,Option.map_some,Option.some.injEq]at h;unfold isAgg;rw[Sem.run_bind,run_underlying p w];cases d<;>simp_all
theorem qH {T:TypeId}{n:Nat}(h:(P.info? T).map (·.size)=some n) (w:World):(sizeOf T).run P w=.ok n w:=by
 cases p:P.info? T with
 | none=>simp[p]at h
 | some i=>simp[p]at h;simp[sizeOf,typeInfo,p,h]
structure zn (P:Program) (T:TypeId) (cs:List Value) (off:Nat) (v:Value):Prop where
 run:∀ (w:World) (b:Nat),(∀ j,w.cell? ⟨b,j,none⟩=cs[j]?)->(loadVar T ⟨b,off,none⟩).run P w=.ok v w
theorem zG (b off j:Nat):(⟨b,off,none⟩:Addr).add j=⟨b,off+j,none⟩:=by
 unfold Addr.add;split<;>simp_all
theorem zn.cell {T:TypeId}(hT:jy P T) {p:List Value}{off:Nat}{v:Value}(hv:p[off]? = some v):zn P T p off v:=⟨fun w b I=>by
 have:w.cell? ⟨b,off,none⟩=some v:=by rw[I,hv]
 simp[loadVar,Sem.run_bind,QI hT.flat,this]⟩
theorem zn.agg {T:TypeId}{n:Nat}(hT:Ye P T n) {p:List Value}{off:Nat}{l:List Value}(ab:(p.drop off).take n=l) (hn:l.length=n):zn P T p off (.agg l.toArray):=⟨fun w b aa=>by
 have I:(loadCells ⟨b,off,none⟩ l.length).run P w=.ok l.toArray w:=
  run_loadCells_list (P:=P) w ⟨b,off,none⟩ l (fun j v U=>by
   rw[zG,aa,<- U,<- ab,List.getElem?_take,List.getElem?_drop];have:j<n:=by rw[<- hn];exact(List.getElem?_eq_some_iff.1 U).1
   simp[this])
 rw[hn]at I;simp[loadVar,Sem.run_bind,QI hT.flat,qH hT.size,I]⟩
theorem zgi {T:TypeId}{x:Operand}{p:List Value}(J:Loc w0 w L D) (I:Region.wanted ⟨d,.box T x,ty,pos,after,g⟩ (yielded ops a.tmps)=true) (U:(a.eval x).cells.toList=p)
  (h:∀ b w',Loc w0 w' ((b,T,p)::L) D->wpList P ops Q rest (a.put d (.pointer (some ⟨b,0,none⟩))) w'):wpList P ops Q (⟨d,.box T x,ty,pos,after,g⟩::rest) a w:=
 qp (o:=⟨d,.box T x,ty,pos,after,g⟩) (w':=w.alloc (.cells p.toArray T)) I (by
  subst U;simp[execOp,Instr.box,newVar,newRow]) (h _ _ (J.box T p))
theorem ZY {T:TypeId}{p:List Value}(J:Loc w0 w L D) (aa:Region.wanted ⟨d,.alloc T,ty,pos,after,g⟩ (yielded ops a.tmps)=true) (hz:yx P T p)
  (h:∀ b w',Loc w0 w' ((b,T,p)::L) D->wpList P ops Q rest (a.put d (.pointer (some ⟨b,0,none⟩))) w'):wpList P ops Q (⟨d,.alloc T,ty,pos,after,g⟩::rest) a w:=
 qp (o:=⟨d,.alloc T,ty,pos,after,g⟩) (w':=w.alloc (.cells p.toArray T)) aa (by
  replace hz:=hz.zero;cases I:P.info? T with
  | none=>simp[I]at hz
  | some i=>
   cases U:i.zero with
   | none=>simp[I,U]at hz
   | some z=>
    simp[I,U]at hz;simp[execOp,Instr.alloc,zeroValue,typeInfo,I,U,newVar,newRow,<- hz]) (h _ _ (J.box T p))
theorem ya {T:TypeId}{x:Operand}{b off:Nat}{I:TypeId}{p:List Value}{f:List Value->List zg}{v:Value}(J:Loc w0 w L D) (aa:Region.wanted ⟨d,.load T x,ty,pos,after,g⟩ (yielded ops a.tmps)=true)
  (ab:a.eval x=.pointer (some ⟨b,off,none⟩)) (U:InL b I p L f) (hv:zn P T p off v)
  (h:wpList P ops Q rest (a.put d v) w):wpList P ops Q (⟨d,.load T x,ty,pos,after,g⟩::rest) a w:=
 qp (o:=⟨d,.load T x,ty,pos,after,g⟩) (w':=w) aa (by
  simp[execOp,Instr.loadAt,ab,Instr.sureAddr,hv.run w b (fun j=>J.cell U j)]) h
theorem zdz {T:TypeId}{x:Operand}{b off:Nat}{I:TypeId}{p:List Value}{v:Value}(J:Loc w0 w L D) (ab:Region.wanted ⟨d,.load T x,ty,pos,after,g⟩ (yielded ops a.tmps)=true)
  (ac:a.eval x=.pointer (some ⟨b,off,none⟩)) (aa:y6 b I p∈D) (hv:zn P T p off v)
  (h:wpList P ops Q rest (a.put d v) w):wpList P ops Q (⟨d,.load T x,ty,pos,after,g⟩::rest) a w:=
 qp (o:=⟨d,.load T x,ty,pos,after,g⟩) (w':=w) ab (by
  have U:w.heap[b]? = some (.cells p.toArray I (0,0)):=J.get aa;simp[execOp,Instr.loadAt,ac,Instr.sureAddr,hv.run w b (fun j=>by simp[World.cell?,U])]) h
structure zd (P:Program) (T:TypeId) (w:World) (b off:Nat) (v:Value):Prop where
 lt:b<w.heap.size
 run:∀ w' : World,(∀ j,w'.cell? ⟨b,j,none⟩=w.cell? ⟨b,j,none⟩)->(loadVar T ⟨b,off,none⟩).run P w'=.ok v w'
theorem zd.cell {T:TypeId}(hT:jy P T) {b off:Nat}{v:Value}(hb:b<w.heap.size) (hv:w.cell? ⟨b,off,none⟩=some v):zd P T w b off v:=⟨hb,fun I p=>by
 have:I.cell? ⟨b,off,none⟩=some v:=by rw[p,hv]
 simp[loadVar,Sem.run_bind,QI hT.flat,this]⟩
theorem zd.agg {T:TypeId}{n:Nat}(hT:Ye P T n) {b off:Nat}{l:List Value}(hb:b<w.heap.size) (hv:∀ j v,l[j]? = some v->w.cell? ⟨b,off+j,none⟩=some v) (hn:l.length=n):zd P T w b off (.agg l.toArray):=⟨hb,fun p U=>by
 have I:(loadCells ⟨b,off,none⟩ l.length).run P p=.ok l.toArray p:=
  run_loadCells_list (P:=P) p ⟨b,off,none⟩ l (fun j v aa=>by rw[zG,U];exact hv j v aa)
 rw[hn]at I;simp[loadVar,Sem.run_bind,QI hT.flat,qH hT.size,I]⟩
theorem zL {T:TypeId}{x:Operand}{b off:Nat}{v:Value}(I:zd P T w0 b off v) (J:Loc w0 w L D) (U:Region.wanted ⟨d,.load T x,ty,pos,after,g⟩ (yielded ops a.tmps)=true)
  (aa:a.eval x=.pointer (some ⟨b,off,none⟩))
  (h:wpList P ops Q rest (a.put d v) w):wpList P ops Q (⟨d,.load T x,ty,pos,after,g⟩::rest) a w:=
 qp (o:=⟨d,.load T x,ty,pos,after,g⟩) (w':=w) U (by
  simp[execOp,Instr.loadAt,aa,Instr.sureAddr,I.run w (fun j=>J.below.cell (p:=⟨b,j,none⟩) I.lt)]) h
def zj (p:List Value) (off:Nat) (vs:List Value):List Value:=p.take off++(vs++p.drop (off+vs.length))
theorem Gn (p:List Value) (k:Nat) (v:Value) (vs:List Value) (h:k<p.length):zj (p.set k v) (k+1) vs=zj p k (v::vs):=by
 unfold zj;have I:(p.set k v).take (k+1)=p.take k++[v]:=by
  rw[List.take_add_one,List.take_set_of_le (Nat.le_refl _)];simp[h]
 rw[I,List.drop_set_of_lt (by omega)];simp[show k+1+vs.length=k+(vs.length+1) from by omega]
theorem zR {T:TypeId}{x y:Operand}{b off:Nat}{U:TypeId}{p vs cs' : List Value}{f:List Value->List zg}(J:Loc w0 w L D) (av:Region.wanted ⟨d,.store T x y,ty,pos,after,g⟩ (yielded ops a.tmps)=true)
  (a2:a.eval x=.pointer (some ⟨b,off,none⟩)) (ac:InL b U p L f) (ae:(a.eval y).cells.toList=vs) (hT:Y9 P T vs.length) (aa:vs.all (·.oneCell')=true)
  (ad:off+vs.length<=p.length) (ar:zj p off vs=cs')
  (h:∀ w',Loc w0 w' (f cs') D->wpList P ops Q rest (a.put d undef) w'):wpList P ops Q (⟨d,.store T x y,ty,pos,after,g⟩::rest) a w:=by
 have I:=J.heap ac;obtain⟨w',aq,aw,ax,ay,az,a0,a1⟩:∃ w',(storeCells ⟨b,off,none⟩ vs 0).run P w=.ok () w'∧w'.os=w.os∧w'.tape=w.tape∧w'.output=w.output∧w'.heap.size=w.heap.size∧
   w'.heap[b]? = some (.cells cs'.toArray U (0,0))∧∀ k,k≠b->w'.heap[k]? = w.heap[k]? :=by
  have key:∀ (vs:List Value) (off i:Nat) (p:List Value) (w:World),w.heap[b]? = some (.cells p.toArray U (0,0))->vs.all (·.oneCell')=true->off+i+vs.length<=p.length->
    ∃ w',(storeCells ⟨b,off,none⟩ vs i).run P w=.ok () w'∧w'.os=w.os∧w'.tape=w.tape∧w'.output=w.output∧w'.heap.size=w.heap.size∧
     w'.heap[b]? = some (.cells (zj p (off+i) vs).toArray U (0,0))∧∀ k,k≠b->w'.heap[k]? = w.heap[k]? :=by
   intro vs;induction vs with
   | nil=>intro off i p w I _ _;exact⟨w,by simp[storeCells],rfl,rfl,rfl,rfl,by simpa [zj] using I,fun _ _=>rfl⟩
   | cons v vs ih=>
    intro off i p w I aa ad;simp only[List.all_cons,Bool.and_eq_true]at aa;simp only[List.length_cons]at ad;have al:w.cell? ⟨b,off+i,none⟩=some (p[off+i]'(by omega)):=by simp[World.cell?,I]
    have an:w.frozen? ⟨b,off+i,none⟩=false:=by simp[World.frozen?,I]
    have ak:(w.setCell ⟨b,off+i,none⟩ v).heap[b]? = some (.cells (p.set (off+i) v).toArray U (0,0)):=by
     simp[World.setCell,Array.getElem?_modify,I]
    obtain⟨w',ao,af,e2,ag,ah,ai,aj⟩:=ih off (i+1) (p.set (off+i) v) (w.setCell ⟨b,off+i,none⟩ v) ak aa.2 (by simp;omega);refine⟨w',?_,af,e2,ag,?_,?_,?_⟩
    ·rw[storeCells,Sem.run_bind,zG,run_store P w _ v .plain aa.1,al]
     simp[an,ao]
    ·rw[ah];simp
    ·rw[ai,<- Gn p (off+i) v vs (by omega),show off+(i+1)=off+i+1 from by omega]
    ·intro k ab
     rw[aj k ab,Below.heap_setCell _ _ _ _ ab]
  have:=key vs off 0 p w I aa (by omega);simpa [ar] using this
 refine Jm (o:=⟨d,.store T x y,ty,pos,after,g⟩) (w':=w') av ?_ (h _ (J.put ac cs' aw ax ay (Nat.le_of_eq az.symm) a0 (fun k _ ab=>a1 k ab)));have au:(a.eval y).cells.size=vs.length:=by rw[<- ae];simp
 simp[execOp,Instr.storeAt,a2,Instr.sureAddr,storeVar,au,qH hT.size,ae,aq]
structure q5 (P:Program) (T E:TypeId) (z:List Value):Prop where
 und:P.underlying T=some (.slice E)
 zero:yx P E z
 size:Y9 P E z.length
theorem Zv {E:TypeId}{z:List Value}(h:yx P E z) (w:World):∃ v,(zeroValue E).run P w=.ok v w∧v.cells.toList=z:=by
 have I:=h.zero;cases p:P.info? E with
 | none=>simp[p]at I
 | some i=>
  cases T:i.zero with
  | none=>simp[p,T]at I
  | some v=>
   simp[p,T]at I;exact⟨v,by simp[zeroValue,typeInfo,p,T],I⟩
theorem Xy (off:Nat):∀ (l:List Value) (j:Nat) (pre old post:List Value),pre.length=off+j->old.length=l.length->
  (l.zipIdx j).foldl (fun (p:Array Value) (c:Value × Nat)=>p.setIfInBounds (off+c.2) c.1) (pre++(old++post)).toArray=(pre++(l++post)).toArray
 | [],_,_,old,_,_,h=>by
  have:old=[]:=List.length_eq_zero_iff.1 (by simpa using h);subst this;rfl
 | x::l,j,pre,o::old,post,hp,h=>by
  rw[List.zipIdx_cons,List.foldl_cons];have e:(pre++(o::old++post)).toArray.setIfInBounds (off+j) x=((pre++[x])++(old++post)).toArray:=by
   rw[List.setIfInBounds_toArray];congr 1;rw[<- hp];simp
  show List.foldl _ ((pre++(o::old++post)).toArray.setIfInBounds (off+j) x) _=_
  rw[e,Xy off l (j+1) (pre++[x]) old post (by simp;omega) (by simpa using h)];simp
 | _::_,_,_,[],_,_,h=>by simp at h
theorem zah (k:Nat):∀ (p:List (Nat × Value)) (i:Nat) (pre rest:List Value),p.map (·.1)=List.range' i p.length->pre.length=i*k->rest.length=p.length*k->(∀ T∈p,T.2.cells.size=k)->
  Instr.fill (fun i=>some (i*k,k)) (pre++rest).toArray p=some (pre++p.flatMap (fun T=>T.2.cells.toList)).toArray
 | [],i,pre,rest,_,_,hr,_=>by
  have:rest=[]:=List.length_eq_zero_iff.1 (by simpa using hr);subst this;rfl
 | (i',v)::p,i,pre,rest,U,aa,hr,hs=>by
  have ad:v.cells.size=k:=hs _ List.mem_cons_self;simp only[List.map_cons,List.length_cons,List.range'_succ,List.cons.injEq]at U;obtain⟨rfl,U⟩:=U;have aj:k<=rest.length:=by rw[hr,List.length_cons];exact Nat.le_mul_of_pos_left _ (by omega)
  obtain⟨old,I,rfl,ac⟩:∃ old I,rest=old++I∧old.length=k:=⟨rest.take k,rest.drop k,(List.take_append_drop k rest).symm,by simp[aj]⟩;have ak : I.length=p.length*k:=by
   simp only[List.length_append,List.length_cons,Nat.add_mul,Nat.one_mul,ac]at hr;omega
  have ae:¬ ((decide (v.cells.size≠k) || decide (i' * k+v.cells.size > (pre++(old++I)).toArray.size))=true):=by
   simp[ad,aa,ac]
  have af:=Xy (i' * k) v.cells.toList 0 pre old I (by omega) (by simp[ac,ad]);have ag:v.cells.zipIdx.foldl (fun (ab:Array Value) (x:Value × Nat)=>ab.setIfInBounds (i' * k+x.2) x.1) (pre++(old++I)).toArray=(pre++(v.cells.toList++I)).toArray:=by
   rw[<- af,<- Array.foldl_toList];simp
  have ah:=zah k p (i' + 1) (pre++v.cells.toList) I U (by simp[aa,ad,Nat.add_mul]) ak (fun T aa=>hs T (List.mem_cons_of_mem _ aa));have ai:Instr.fill (fun i=>some (i*k,k)) (pre++(v.cells.toList++I)).toArray p=some (pre++v.cells.toList++p.flatMap (fun T=>T.2.cells.toList)).toArray:=by
   rw[<- List.append_assoc];exact ah
  simp only[Instr.fill];rw[if_neg ae];rw[show (v.cells.zipIdx.foldl (fun ab (x:Value × Nat)=>match x with|(c,j)=>ab.setIfInBounds (i' * k+j) c) (pre++(old++I)).toArray)=(pre++(v.cells.toList++I)).toArray from ag,ai];simp
theorem Vf {T E:TypeId}{n:Nat}{parts:Array (Nat × Operand)}{z I:List Value}(J:Loc w0 w L D) (ak:Region.wanted ⟨d,.buildSlice T n parts,ty,pos,after,g⟩ (yielded ops a.tmps)=true)
  (hT:q5 P T E z) (hn:n*z.length<=16777216) (ac:n*z.length≠0) (hi:parts.toList.map (·.1)=List.range' 0 n)
  (hf:(parts.toList.map (fun p=>(a.eval p.2).cells.toList)).flatten=I) (ag:(parts.toList.map (fun p=>(a.eval p.2).cells.size)).all (· == z.length)=true)
  (h:∀ b w',Loc w0 w' ((b,E,I)::L) D->wpList P ops Q rest (a.put d (.slice (some ⟨b,0,none⟩) n n)) w'):wpList P ops Q (⟨d,.buildSlice T n parts,ty,pos,after,g⟩::rest) a w:=
 qp (o:=⟨d,.buildSlice T n parts,ty,pos,after,g⟩) (w':=w.alloc (.cells I.toArray E)) ak (by
  obtain⟨v,ah,aj⟩:=Zv hT.zero w;have ai:v.cells=z.toArray:=by rw[<- aj]
  have ad:¬ (n*z.length > 2 ^ 24):=by omega
  have aa:parts.size=n:=by have:=congrArg List.length hi;simpa using this
  have U:=zah z.length (parts.map fun (i,x)=>(i,a.eval x)).toList 0 [] ((Array.range (n*z.length)).map (fun j=>(z.toArray)[j % z.toArray.size]!)).toList
   (by simp only[Array.toList_map,List.map_map];rw[show ((fun x:Nat × Value=>x.1) ∘ fun x:Nat × Operand=>match x with|(i,x)=>(i,a.eval x))=(fun x=>x.1) from by funext x;rfl,hi];simp[aa])
   (by simp) (by simp[aa]) (by
    intro p ab;simp only[Array.toList_map,List.mem_map]at ab;obtain⟨q,af,rfl⟩:=ab;have:=List.all_eq_true.1 ag ((a.eval q.2).cells.size) (by simp only[List.mem_map];exact⟨q,af,rfl⟩);simpa using this)
  have ae:((parts.map fun (i,x)=>(i,a.eval x)).toList.flatMap fun p=>p.2.cells.toList)=I:=by
   rw[<- hf];simp[List.flatMap,List.map_map];rfl
  rw[ae]at U;simp only[List.nil_append,Array.toArray_toList]at U;simp only[execOp,Instr.buildSlice,Sem.run_bind,run_underlying hT.und,Result.andThen_ok,qH hT.size.size,if_neg ad,if_neg ac,Sem.run_pure,ah,ai,U];simp[newRow]) (h _ _ (J.box E I))
theorem qm {c:Code}{n:Nat}(h:c.wp P (Exit.then (Code.rounds P c Q n) Q) a w):Code.rounds P c Q (n+1) a w:=h
def zdA (p:Array Value):ResultVar->Sem Value:=fun
 | .tmp t=>pure (p.getD t undef)
 | .cell a t=>do loadVar t (<- asAddr (p.getD a undef))
theorem yK (fn:Func) (p:Array Value):results fn p=(do let vs <- fn.results.mapM (zdA p);pure (if h:vs.size=1 then vs[0] else .tuple vs)):=by
 unfold results;have h:∀ (f:ResultVar->Sem Value),f=zdA p->(do let vs <- fn.results.mapM f;pure (if h:vs.size=1 then vs[0] else .tuple vs):Sem Value)=(do let vs <- fn.results.mapM (zdA p);pure (if h:vs.size=1 then vs[0] else .tuple vs)):=by
  intro f I;rw[I]
 exact h _ (by funext x;cases x<;>rfl)
structure QJ (P:Program) (w:World) (tmps:Array Value) (r:ResultVar) (v:Value):Prop where
 run:(zdA tmps r).run P w=.ok v w
theorem zhz {p:Array Value}{t:Tmp}{v:Value}(h:p[t]? = some v):QJ P w p (.tmp t) v:=⟨by simp[zdA,h]⟩
theorem Ka {U:Array Value}{p:Tmp}{T:TypeId}{b:Nat}{aa:TypeId}{I:List Value}{f:List Value->List zg}{v:Value}(J:Loc w0 w L D) (ac:U[p]? = some (.pointer (some ⟨b,0,none⟩)))
  (ab:InL b aa I L f) (hv:zn P T I 0 v):QJ P w U (.cell p T) v:=⟨by
 simp[zdA,ac,asAddr,hv.run w b (fun j=>J.cell ab j)]⟩
theorem zi5 {fn:Func}{R:Ending->World->Prop}{r:ResultVar}{v:Value}(T:fn.results=#[r]) (h:QJ P w a.tmps r v) (I:a.defers=[]) (p:R (.returned v) w):bodyPost P fn R .ret a w:=
 bodyPost_ret (v:=v) (by rw[yK,T];simp[h.run]) I p
theorem zi6 {fn:Func}{R:Ending->World->Prop}{r s:ResultVar}{v u:Value}(T:fn.results=#[r,s]) (h:QJ P w a.tmps r v) (k:QJ P w a.tmps s u) (I:a.defers=[]) (p:R (.returned (.tuple #[v,u])) w):bodyPost P fn R .ret a w:=
 bodyPost_ret (v:=.tuple #[v,u]) (by rw[yK,T];simp[h.run,k.run]) I p
theorem zi7 {fn:Func}{R:Ending->World->Prop}{r s t:ResultVar}{v u x:Value}(T:fn.results=#[r,s,t]) (h:QJ P w a.tmps r v) (k:QJ P w a.tmps s u) (l:QJ P w a.tmps t x) (I:a.defers=[]) (p:R (.returned (.tuple #[v,u,x])) w):bodyPost P fn R .ret a w:=
 bodyPost_ret (v:=.tuple #[v,u,x]) (by rw[yK,T];simp[h.run,k.run,l.run]) I p
theorem zi8 {fn:Func}{R:Ending->World->Prop}{r s t q:ResultVar}{v u x y:Value}(T:fn.results=#[r,s,t,q]) (h:QJ P w a.tmps r v) (k:QJ P w a.tmps s u) (l:QJ P w a.tmps t x) (m:QJ P w a.tmps q y) (I:a.defers=[]) (p:R (.returned (.tuple #[v,u,x,y])) w):bodyPost P fn R .ret a w:=
 bodyPost_ret (v:=.tuple #[v,u,x,y]) (by rw[yK,T];simp[h.run,k.run,l.run,m.run]) I p
end
def JL (E:TypeId) (size:Nat) (v:Value) (n:Nat) (xs:List Value) (R:List zg):Prop:=
 xs.length=n*size∧((v=.slice none 0 0∧n=0∧R=[])∨
  ∃ g cap p,v=.slice (some ⟨g,0,none⟩) n cap∧R=[(g,E,p)]∧n<=cap∧cap<=maxLen∧p.length=cap*size∧p.take (n*size)=xs)
theorem JL.nil {E:TypeId}{size:Nat}:JL E size (.slice none 0 0) 0 [] []:=⟨by simp,.inl ⟨rfl,rfl,rfl⟩⟩
inductive Jn (R:List zg):List zg->List zg->Prop where
 | nil:Jn R R []
 | cons {L K:List zg} (x:zg) (h:Jn R L K):Jn R (x::L) (x::K)
theorem Jn.eq {R L K:List zg}(h:Jn R L K):L=K++R:=by
 induction h with
 | nil=>rfl
 | cons x _ ih=>rw[ih];rfl
structure yL (P:Program) (T:TypeId) (n:Nat):Prop where
 bytes:(P.info? T).map (·.bytes)=some n
theorem Loc.perm {w0 w:World}{L L' D}(h:Loc w0 w L D) (I:L'.Perm L):Loc w0 w L' D:=
 ⟨h.below,(I.map _).nodup_iff.2 h.nodup,fun e p=>h.ids e (I.mem_iff.1 p),fun e p=>h.cells e (I.mem_iff.1 p),fun S ab=>by
  obtain⟨X,T,aa⟩:=h.data S ab;exact⟨X,fun b U=>⟨(T b U).1,fun e p=>(T b U).2 e (I.mem_iff.1 p)⟩,aa⟩⟩
theorem Loc.sub {w0 w:World}{L L' D}(h:Loc w0 w L D) (hn:(L'.map (·.1)).Nodup) (I:∀ e∈L',e∈L):Loc w0 w L' D:=
 ⟨h.below,hn,fun e p=>h.ids e (I e p),fun e p=>h.cells e (I e p),fun S ab=>by
  obtain⟨X,T,aa⟩:=h.data S ab;exact⟨X,fun b U=>⟨(T b U).1,fun e p=>(T b U).2 e (I e p)⟩,aa⟩⟩
theorem Zw {w w' : World}(h:w.grownBy w' none):Below w.heap.size w w':=
 ⟨h.os,h.tape,h.output,h.size,fun k p=>h.block k p (by simp)⟩
section
variable {P : Program} {ops : Array Oper} {Q : Exit -> Act -> World -> Prop} {a : Act} {w0 w : World} {rest : List Oper} {L : List zg} {D : List zl}
 {d:Option Tmp} {ty:TypeId} {pos:String} {after:Array Edge} {g:Option (Nat × Bool)}
theorem J5 {base E size:Nat}{v:Value}{n:Nat}{xs:List Value}(h:w.ownsRow base E size v n xs):
  ∃ R,JL E size v n xs R∧(∀ e∈R,base<=e.1∧w.heap[e.1]? = some (.cells e.2.2.toArray e.2.1 (0,0)))∧(R.map (·.1)).Nodup:=by
 obtain⟨U,aa⟩:=h;rcases aa with⟨I,p⟩|⟨g,cap,T,I,ab,af,p,ac,ad,ag⟩
 ·exact⟨[],⟨U,.inl ⟨I,p,rfl⟩⟩,by simp,by simp⟩
 ·refine⟨[(g,E,T.toList)],⟨U,.inr ⟨g,cap,T.toList,I,rfl,p,ac,by simpa using ad,ag⟩⟩,fun e ae=>?_,by simp⟩
  rw[List.mem_singleton.1 ae];exact⟨ab,by simpa using af⟩
theorem QW {E t ty:TypeId}{z:List Value}{bytes:Nat}{K R:List zg}(J:Loc w0 w (K++R) D) (hT:q5 P t E z) (a1:yL P E bytes) (hz:0<z.length)
  {v:Value} {n:Nat} {xs:List Value} (aA:JL E z.length v n xs R) {ad:Addr} {m c:Nat} {news:List Value} (ao:news.length=m*z.length)
  (aq:∀ j u,news[j]? = some u->w.cell? (ad.add j)=some u) (ax:∀ u∈news,u.oneCell'=true) (ay:n+m<=maxLen) (a2:(n+m)*bytes<=140737488355328):
  ∃ U p I,(Builtin.append_ #[t,t] ty #[v,.slice (some ad) m c]).run P w=.ok U p∧JL E z.length U (n+m) (xs++news) I∧Loc w0 p (K++I) D:=by
 obtain⟨ak,aP,aO⟩:=Zv hT.zero w;obtain⟨i,aa⟩:∃ i,P.info? E=some i:=by
  have:=a1.bytes;cases aa:P.info? E with
  | none=>simp[aa]at this
  | some i=>exact⟨i,rfl⟩
 have a3:i.bytes=bytes:=by have:=a1.bytes;simpa [aa] using this
 have an:i.size=z.length:=by have:=hT.size.size;simpa [aa] using this
 obtain⟨av,a5,aN⟩:∃ ak,i.zero=some ak∧ak.cells.toList=z:=by
  have:=hT.zero.zero;cases a6:i.zero with
  | none=>simp[aa,a6]at this
  | some ak=>exact⟨ak,rfl,by simpa [aa,a6] using this⟩
 have hzs:av.cells.size=z.length:=by rw[<- aN];simp
 have fresh:∀ U p,p.ownsRow w.heap.size E z.length U (n+m) (xs++news)->w.grownBy p none->∃ I,JL E z.length U (n+m) (xs++news) I∧Loc w0 p (K++I) D:=by
  intro U p aJ al;obtain⟨I,ac,af,_⟩:=J5 aJ;refine⟨I,ac,?_⟩;have a0:=Zw al;have az:Loc w0 w K D:=J.drop (List.sublist_append_left K R) (fun _ h=>h);rcases ac.2 with⟨_,_,ab⟩|⟨a8,a7,aw,_,ab,_⟩
  ·subst ab;rw[List.append_nil];exact az.grow a0
  ·subst ab
   have T:=af _ List.mem_cons_self;exact(az.gain a0 T.1 T.2).perm (List.perm_append_comm)
 obtain⟨au,aB⟩:=aA;rcases aB with⟨ae,aF,ab⟩|⟨g,cap,ag,ae,ab,aH,aC,aD,a4⟩
 ·subst ae;subst aF;subst ab
  have ar:w.ownsRow w.heap.size E z.length (.slice none 0 0) 0 xs:=⟨au,.inl ⟨rfl,rfl⟩⟩;obtain⟨U,p,ac,af,T,_⟩:=run_append_own (P:=P) w w.heap.size t ty E i av z.length bytes hT.und aa a5 an a3 hzs hz _ 0 xs ar ad m c news ao aq ax ay a2 (Nat.le_refl _);obtain⟨I,ah,ai⟩:=fresh U p af T;exact⟨U,p,I,ac,ah,ai⟩
 ·subst ae;subst ab
  have al:w.heap[g]? = some (.cells ag.toArray E (0,0)):=J.cells (g,E,ag) (by simp);have ar:w.ownsRow 0 E z.length (.slice (some ⟨g,0,none⟩) n cap) n xs:=⟨au,.inr ⟨g,cap,ag.toArray,rfl,Nat.zero_le _,al,aH,aC,by simpa using aD,by simpa using a4⟩⟩;by_cases aM:n+m<=cap
  ·obtain⟨p,ac,af,T⟩:=run_append_fits (P:=P) w 0 t ty E i z.length hT.und aa an g n cap xs ar ad m c news ao aq ax aM
   obtain⟨I,ah,ai,_⟩:=J5 af;refine⟨_,p,I,ac,ah,?_⟩;rcases ah.2 with⟨ae,_⟩|⟨a8,a7,aw,ae,ab,_⟩
   ·simp at ae
   ·simp only[Value.slice.injEq,Option.some.injEq,Addr.mk.injEq,and_true,true_and]at ae
    obtain⟨rfl,_⟩:=ae;subst ab;have a9:=(ai _ List.mem_cons_self).2;have aL:Loc w0 w ((g,E,ag)::K) D:=J.perm (by simpa using (List.perm_append_comm (l₁:=[(g,E,ag)]) (l₂:=K)));exact(aL.put (f:=fun c=>(g,E,c)::K) .head aw T.os T.tape T.output T.size a9 (fun k aE aI=>T.block k aE (by simp[aI]))).perm (List.perm_append_comm)
  ·have aK:∀ j u,xs[j]? = some u->w.cell? ((⟨g,0,none⟩:Addr).add j)=some u:=fun j u aj=>by
    rw[zG,Nat.zero_add];have:ag[j]? = some u:=by
     rw[<- a4]at aj;rw[List.getElem?_take]at aj;split at aj
     ·exact aj
     ·cases aj
    simp[World.cell?,al,this]
   obtain⟨U,p,ac,af,T⟩:=run_append_arg_grows (P:=P) w t ty E i av z.length bytes hT.und aa a5 an a3 hzs hz ⟨g,0,none⟩ n cap xs au aK ad m c news ao aq (by omega) ay a2;obtain⟨I,ah,ai⟩:=fresh U p af T;exact⟨U,p,I,ac,ah,ai⟩
theorem zbG {s x:Operand}{E t:TypeId}{z:List Value}{bytes:Nat}{K R:List zg}{v:Value}{n:Nat}{xs:List Value}(af:JL E z.length v n xs R) (J:Loc w0 w L D)
  (al:Region.wanted ⟨d,.call { callee:=.builtin .append,args:=#[s,x],argTypes:=#[t,t] },ty,pos,after,g⟩ (yielded ops a.tmps)=true) (ak:a.eval s=v) (ae:Jn R L K) (hT:q5 P t E z) (ag:yL P E bytes) (hz:0<z.length)
  {ad:Addr} {m c:Nat} {news:List Value} (an:a.eval x=.slice (some ad) m c) (aj:∀ j u,news[j]? = some u->w.cell? (ad.add j)=some u) (ai:news.length=m*z.length)
  (T:∀ u∈news,u.oneCell'=true) (ac:n+m<=maxLen) (ah:(n+m)*bytes<=140737488355328)
  (h:∀ p I w',JL E z.length p (n+m) (xs++news) I->Loc w0 w' (K++I) D->wpList P ops Q rest (a.put d p) w'):
  wpList P ops Q (⟨d,.call { callee:=.builtin .append,args:=#[s,x],argTypes:=#[t,t] },ty,pos,after,g⟩::rest) a w:=by
 rw[ae.eq]at J;obtain⟨p,w',I,U,aa,ab⟩:=QW (P:=P) (ty:=ty) J hT ag hz af ai aj T ac ah;refine qp (o:=⟨d,.call { callee:=.builtin .append,args:=#[s,x],argTypes:=#[t,t] },ty,pos,after,g⟩) (v:=p) (w':=w') al ?_ (h p I w' aa ab);unfold execOp;simp only[resolve,invoke,builtin,Sem.run_bind,Sem.run_pure,Result.andThen_ok,List.map_toArray,List.map_cons,List.map_nil,ak,an];rw[U];rfl
end
def zB (E:TypeId) (size:Nat) (p:Option Addr) (n cap:Nat) (xs:List Value) (R:List zg):Prop:=
 xs.length=n*size∧((n=0∧cap=0∧R=[])∨
  ∃ g I,p=some ⟨g,0,none⟩∧R=[(g,E,I)]∧n<=cap∧cap<=maxLen∧I.length=cap*size∧I.take (n*size)=xs)
theorem zB.nil {E:TypeId}{size:Nat}{p:Option Addr}:zB E size p 0 0 [] []:=⟨by simp,.inl ⟨rfl,rfl,rfl⟩⟩
theorem zB.fits {E:TypeId}{size:Nat}{p:Option Addr}{n cap:Nat}{xs:List Value}{R:List zg}(h:zB E size p n cap xs R):n<=cap:=by
 rcases h.2 with⟨I,U,_⟩|⟨g,T,_,_,I,_⟩<;>omega
theorem zB.ofL {E:TypeId}{size:Nat}{v:Value}{n:Nat}{xs:List Value}{R:List zg}(h:JL E size v n xs R):∃ I cap,v=.slice I n cap∧zB E size I n cap xs R:=by
 obtain⟨p,U⟩:=h;rcases U with⟨rfl,rfl,rfl⟩|⟨g,cap,T,rfl,rfl,aa,ab,ac,ad⟩
 ·exact⟨none,0,rfl,p,.inl ⟨rfl,rfl,rfl⟩⟩
 ·exact⟨_,cap,rfl,p,.inr ⟨g,T,rfl,rfl,aa,ab,ac,ad⟩⟩
theorem zB.full {E:TypeId}{size b n:Nat}{xs:List Value}(p:xs.length=n*size) (hn:n<=maxLen):zB E size (some ⟨b,0,none⟩) n n xs [(b,E,xs)]:=
 ⟨p,.inr ⟨b,xs,rfl,rfl,Nat.le_refl _,hn,p,by rw[<- p,List.take_length]⟩⟩
structure Own (B:Nat) (w:World) (R:List zg):Prop where
 nodup:(R.map (·.1)).Nodup
 at' : ∀ e∈R,B<=e.1∧w.heap[e.1]? = some (.cells e.2.2.toArray e.2.1 (0,0))
theorem Own.nil {B:Nat}{w:World}:Own B w []:=⟨by simp,by simp⟩
theorem Own.grow {B:Nat}{w w' : World}{R:List zg}(h:Own B w R) (hb:Below w.heap.size w w'):Own B w' R:=
 ⟨h.nodup,fun e p=>⟨(h.at' e p).1,by rw[hb.block _ (zz (h.at' e p).2)];exact(h.at' e p).2⟩⟩
theorem Own.mono {B p : Nat}{w:World}{R:List zg}(h:Own B w R) (T:p<=B):Own p w R:=
 ⟨h.nodup,fun e I=>⟨Nat.le_trans T (h.at' e I).1,(h.at' e I).2⟩⟩
theorem Own.sub {B:Nat}{w:World}{R p : List zg}(h:Own B w R) (I:p.Sublist R):Own B w p:=
 ⟨(I.map _).nodup h.nodup,fun e T=>h.at' e (I.subset T)⟩
theorem Loc.own {w0 w:World}{L:List zg}{D:List zl}(h:Loc w0 w L D):Own w0.heap.size w L:=⟨h.nodup,fun e p=>⟨h.ids e p,h.cells e p⟩⟩
theorem Loc.ownOf {w0 w:World}{L:List zg}{D:List zl}(h:Loc w0 w L D) {R:List zg}(p:R.Sublist L):Own w0.heap.size w R:=h.own.sub p
theorem Loc.gainOwn {w0 w w1:World}{L:List zg}{D:List zl}{R:List zg}(h:Loc w0 w L D) (hb:Below w.heap.size w w1) (U:Own w.heap.size w1 R):Loc w0 w1 (R++L) D:=by
 have aa:=h.grow hb;refine⟨aa.below,?_,?_,?_,?_⟩
 ·rw[List.map_append,List.nodup_append]
  refine⟨U.nodup,h.nodup,fun a ae b ag af=>?_⟩;subst af;obtain⟨e,p,ak⟩:=List.mem_map.1 ae;obtain⟨ab,ah,al⟩:=List.mem_map.1 ag;have:=zz (h.cells ab ah);have:=(U.at' e p).1;omega
 ·intro e p
  rcases List.mem_append.1 p with p|p
  ·exact Nat.le_trans h.size (U.at' e p).1
  ·exact h.ids e p
 ·intro e p
  rcases List.mem_append.1 p with p|p
  ·exact(U.at' e p).2
  ·exact aa.cells e p
 ·intro S ad
  obtain⟨X,T,ac⟩:=h.data S ad;refine⟨X,fun k I=>⟨⟨Nat.lt_of_lt_of_le (T k I).1.1 hb.size,(T k I).1.2⟩,fun e p=>?_⟩,fun aj ai=>ac aj fun k I=>?_⟩
  ·rcases List.mem_append.1 p with p|p
   ·have:=(T k I).1.1
    have:=(U.at' e p).1;omega
   ·exact(T k I).2 e p
  ·rw[ai k I,hb.block _ (T k I).1.1]
theorem Loc.gainTail {w0 w w1:World}{L:List zg}{D:List zl}{R:List zg}(h:Loc w0 w L D) (hb:Below w.heap.size w w1) (p:Own w.heap.size w1 R):Loc w0 w1 (L++R) D:=
 (h.gainOwn hb p).perm List.perm_append_comm
theorem Loc.gainMid {w0 w w1:World}{L K R N:List zg}{D:List zl}(h:Loc w0 w L D) (p:L=K++R) (hb:Below w.heap.size w w1) (I:Own w.heap.size w1 N):Loc w0 w1 (K++(N++R)) D:=by
 subst p;refine(h.gainOwn hb I).perm ?_;rw[<- List.append_assoc,<- List.append_assoc];exact List.perm_append_comm.append_right R
theorem Own.perm {B:Nat}{w:World}{R p : List zg}(h:Own B w R) (I:p.Perm R):Own B w p:=
 ⟨(I.map _).nodup_iff.2 h.nodup,fun e T=>h.at' e (I.mem_iff.1 T)⟩
section
variable {P : Program} {ops : Array Oper} {Q : Exit -> Act -> World -> Prop} {a : Act} {w0 w : World} {rest : List Oper} {L : List zg} {D : List zl}
 {d:Option Tmp} {ty:TypeId} {pos:String} {after:Array Edge} {g:Option (Nat × Bool)}
theorem UP {t ty E:TypeId}{z:List Value}(hT:q5 P t E z) {p q:Option Addr}{n cap c:Nat}(hn:n<=cap) (w:World):
  (Builtin.append_ #[t,t] ty #[.slice p n cap,.slice q 0 c]).run P w=.ok (.slice p n cap) w:=by
 cases p<;>cases q<;>
 ·unfold Builtin.append_
  simp[Sem.run_bind,run_underlying hT.und,qH hT.size.size,Builtin.lenOf,Builtin.firstCells,loadCells,loadCellsFrom,storeCells,hn,Array.mapM]
theorem Gp {E t ty:TypeId}{z:List Value}{bytes:Nat}{K R:List zg}(J:Loc w0 w (K++R) D) (hT:q5 P t E z) (ai:yL P E bytes) (hz:0<z.length)
  {p:Option Addr} {n cap:Nat} {xs:List Value} (al:zB E z.length p n cap xs R) {q:Option Addr} {m c:Nat} {news:List Value} (aj:news.length=m*z.length)
  (aE:0<m->∃ ah,q=some ah∧∀ j u,news[j]? = some u->w.cell? (ah.add j)=some u) (aw:∀ u∈news,u.oneCell'=true) (ak:n+m<=maxLen) (ao:(n+m)*bytes<=140737488355328):
  ∃ aa T U I,(Builtin.append_ #[t,t] ty #[.slice p n cap,.slice q m c]).run P w=.ok (.slice aa (n+m) T) U∧zB E z.length aa (n+m) T (xs++news) I∧Loc w0 U (K++I) D:=by
 rcases Nat.eq_zero_or_pos m with rfl|aC
 ·have aF:news=[]:=List.length_eq_zero_iff.1 (by simpa using aj)
  subst aF;exact⟨p,cap,w,R,UP hT al.fits w,by simpa using al,J⟩
 obtain⟨ah,rfl,aq⟩:=aE aC;obtain⟨au,a6⟩:=al;rcases a6 with⟨rfl,rfl,rfl⟩|⟨g,av,rfl,rfl,aD,a7,a8,aI⟩
 · -- an empty slice
  have aJ:xs=[]:=List.length_eq_zero_iff.1 (by simpa using au);subst aJ;cases p with
  | none=>
   obtain⟨a1,U,I,ad,ae,af⟩:=QW (P:=P) (ty:=ty) J hT ai hz JL.nil aj aq aw ak ao;obtain⟨aa,T,rfl,ac⟩:=zB.ofL ae;exact⟨aa,T,U,I,ad,ac,af⟩
  | some b=>
   obtain⟨ag,aP,aO⟩:=Zv hT.zero w;obtain⟨i,ab⟩:∃ i,P.info? E=some i:=by
    have:=ai.bytes;cases ab:P.info? E with
    | none=>simp[ab]at this
    | some i=>exact⟨i,rfl⟩
   have a9:i.bytes=bytes:=by have:=ai.bytes;simpa [ab] using this
   have aA:i.size=z.length:=by have:=hT.size.size;simpa [ab] using this
   obtain⟨a2,aK,aL⟩:∃ ag,i.zero=some ag∧ag.cells.toList=z:=by
    have:=hT.zero.zero;cases a0:i.zero with
    | none=>simp[ab,a0]at this
    | some ag=>exact⟨ag,rfl,by simpa [ab,a0] using this⟩
   have hzs:a2.cells.size=z.length:=by rw[<- aL];simp
   obtain⟨a1,U,ad,ae,af⟩:=run_append_arg_grows (P:=P) w t ty E i a2 z.length bytes hT.und ab aK aA a9 hzs hz b 0 0 [] au (fun j u aB=>by simp at aB) ah m c news aj aq (by omega) ak ao;obtain⟨I,ac,a3,_⟩:=J5 ae;have az:=Zw af;have ay:Loc w0 w K D:=by simpa using J
   have a4:Loc w0 U (K++I) D:=by
    rcases ac.2 with⟨_,_,ar⟩|⟨aN,T,aM,_,ar,_⟩
    ·subst ar;rw[List.append_nil];exact ay.grow az
    ·subst ar
     have ax:=a3 _ List.mem_cons_self;exact(ay.gain az ax.1 ax.2).perm (List.perm_append_comm)
   obtain⟨aa,T,rfl,a5⟩:=zB.ofL ac;exact⟨aa,T,U,I,ad,a5,a4⟩
 ·have aH:JL E z.length (.slice (some ⟨g,0,none⟩) n cap) n xs [(g,E,av)]:=⟨au,.inr ⟨g,cap,av,rfl,rfl,aD,a7,a8,aI⟩⟩
  obtain⟨a1,U,I,ad,ae,af⟩:=QW (P:=P) (ty:=ty) J hT ai hz aH aj aq aw ak ao;obtain⟨aa,T,rfl,ac⟩:=zB.ofL ae;exact⟨aa,T,U,I,ad,ac,af⟩
theorem zF {s x:Operand}{E t:TypeId}{z:List Value}{bytes:Nat}{K R:List zg}{p:Option Addr}{n cap:Nat}{xs:List Value}(ah:zB E z.length p n cap xs R) (J:Loc w0 w L D) (ag:L=K++R)
  (ao:Region.wanted ⟨d,.call { callee:=.builtin .append,args:=#[s,x],argTypes:=#[t,t] },ty,pos,after,g⟩ (yielded ops a.tmps)=true) (an:a.eval s=.slice p n cap) (hT:q5 P t E z) (ai:yL P E bytes) (hz:0<z.length)
  {q:Option Addr} {m c:Nat} {news:List Value} (aq:a.eval x=.slice q m c) (al:0<m->∃ aa,q=some aa∧∀ j u,news[j]? = some u->w.cell? (aa.add j)=some u) (ak:news.length=m*z.length)
  (ab:∀ u∈news,u.oneCell'=true) (af:n+m<=maxLen) (aj:(n+m)*bytes<=140737488355328)
  (h:∀ T I U w',zB E z.length T (n+m) I (xs++news) U->Loc w0 w' (K++U) D->wpList P ops Q rest (a.put d (.slice T (n+m) I)) w'):
  wpList P ops Q (⟨d,.call { callee:=.builtin .append,args:=#[s,x],argTypes:=#[t,t] },ty,pos,after,g⟩::rest) a w:=by
 subst ag;obtain⟨T,I,w',U,ac,ad,ae⟩:=Gp (P:=P) (ty:=ty) J hT ai hz ah ak al ab af aj;refine qp (o:=⟨d,.call { callee:=.builtin .append,args:=#[s,x],argTypes:=#[t,t] },ty,pos,after,g⟩) (v:=.slice T (n+m) I) (w':=w') ao ?_ (h T I U w' ad ae);unfold execOp;simp only[resolve,invoke,builtin,Sem.run_bind,Sem.run_pure,Result.andThen_ok,List.map_toArray,List.map_cons,List.map_nil,an,aq];rw[ac];rfl
theorem QX {T E:TypeId}{z:List Value}(J:Loc w0 w L D) (p:Region.wanted ⟨d,.buildSlice T 0 #[],ty,pos,after,g⟩ (yielded ops a.tmps)=true) (hT:q5 P T E z)
  (h:∀ I w',Loc w0 w' L D->wpList P ops Q rest (a.put d (.slice I 0 0)) w'):wpList P ops Q (⟨d,.buildSlice T 0 #[],ty,pos,after,g⟩::rest) a w:=
 qp (o:=⟨d,.buildSlice T 0 #[],ty,pos,after,g⟩) (v:=.slice (some ⟨w.heap.size,0,none⟩) 0 0) (w':=w.alloc (.cells #[] E)) p (by
  simp[execOp,Instr.buildSlice,Sem.run_bind,run_underlying hT.und,qH hT.size.size,Instr.fill,newRow];rw[show Array.range 0=#[] by decide];simp) (h _ _ (J.grow ((Below.refl _ _).alloc (Nat.le_refl _) _)))
theorem Xz (z:List Value):∀ n:Nat,(madeCells z.toArray (n*z.length)).toList=(List.replicate n z).flatten
 | 0=>by simp[madeCells]
 | n+1=>by
  have ih:=Xz z n;rw[List.replicate_succ',List.flatten_append,<- ih];simp only[madeCells,Array.toList_map,Array.toList_range,List.flatten_cons,List.flatten_nil,List.append_nil];rw[Nat.add_mul,Nat.one_mul,List.range_add,List.map_append,List.map_map];congr 1;apply List.ext_getElem?;intro j;by_cases p:j<z.length
  ·rw[List.getElem?_map,List.getElem?_range p]
   have:(n*z.length+j) % z.length=j:=by rw[Nat.mul_comm,Nat.mul_add_mod];exact Nat.mod_eq_of_lt p
   simp[this,p]
  ·rw[List.getElem?_eq_none (by simpa using p),List.getElem?_eq_none (by omega)]
theorem Kb {T E:TypeId}{z:List Value}{bytes n:Nat}{l c:Operand}{ad ac:IntKind}(J:Loc w0 w L D) (an:Region.wanted ⟨d,.makeSlice T l c,ty,pos,after,g⟩ (yielded ops a.tmps)=true) (hT:q5 P T E z) (aa:yL P E bytes)
  (al:a.eval l=.int ad (n:Int)) (hc:a.eval c=.int ac (n:Int)) (hb:bytes*n<=281474976710656) (au:n<=9223372036854775807)
  (h:∀ b ae,Loc w0 ae ((b,E,(List.replicate n z).flatten)::L) D->wpList P ops Q rest (a.put d (.slice (some ⟨b,0,none⟩) n n)) ae):wpList P ops Q (⟨d,.makeSlice T l c,ty,pos,after,g⟩::rest) a w:=by
 obtain⟨i,p⟩:∃ i,P.info? E=some i:=by
  have:=aa.bytes;cases p:P.info? E with
  | none=>simp[p]at this
  | some i=>exact⟨i,rfl⟩
 have aj:i.bytes=bytes:=by have:=aa.bytes;simpa [p] using this
 have ak:i.size=z.length:=by have:=hT.size.size;simpa [p] using this
 obtain⟨af,ao,aq⟩:∃ U,i.zero=some U∧U.cells.toList=z:=by
  have:=hT.zero.zero;cases ab:i.zero with
  | none=>simp[p,ab]at this
  | some U=>exact⟨U,rfl,by simpa [p,ab] using this⟩
 have ag : (i.bytes : Int) * (n : Int) <= 281474976710656 := by rw [aj]; have : ((bytes * n : Nat) : Int) <= 281474976710656 := by omega
                                                                rwa [Int.natCast_mul]at this
 have I:=run_make (P:=P) w T E i af hT.und p ao ad ac n n (by omega) (Int.le_refl _) ag (by omega);have ar:af.cells=z.toArray:=by rw[<- aq]
 rw[ar,ak]at I;have ah:=Xz z n;have ai:madeCells z.toArray (n*z.length)=((List.replicate n z).flatten).toArray:=by rw[<- ah]
 simp only[Int.toNat_natCast]at I;rw[ai]at I;exact qp (o:=⟨d,.makeSlice T l c,ty,pos,after,g⟩) an (by simp[execOp,al,hc,I]) (h _ _ (J.box E _))
theorem JC {s x:Operand}{E t:TypeId}{z:List Value}{bytes:Nat}{p:Option Addr}(aj:Region.wanted ⟨d,.call { callee:=.builtin .append,args:=#[s,x],argTypes:=#[t,t] },ty,pos,after,g⟩ (yielded ops a.tmps)=true)
  (ai:a.eval s=.slice p 0 0) (hT:q5 P t E z) (ae:yL P E bytes) (hz:0<z.length)
  {q:Option Addr} {m c:Nat} {news:List Value} (ak:a.eval x=.slice q m c) (ah:0<m->∃ ab,q=some ab∧∀ j u,news[j]? = some u->w.cell? (ab.add j)=some u) (ag:news.length=m*z.length)
  (ad:∀ u∈news,u.oneCell'=true) (al:m<=maxLen) (af:m*bytes<=140737488355328)
  (h:∀ aa U T I,zB E z.length aa m U news T->Own w.heap.size I T->Below w.heap.size w I->wpList P ops Q rest (a.put d (.slice aa m U)) I):
  wpList P ops Q (⟨d,.call { callee:=.builtin .append,args:=#[s,x],argTypes:=#[t,t] },ty,pos,after,g⟩::rest) a w:=by
 refine zF (w0:=w) (D:=[]) (L:=[]) (K:=[]) (R:=[]) (zB.nil (p:=p)) (Loc.start w) rfl aj ai hT ae hz ak ah ag ad (by omega) (by rw[Nat.zero_add];exact af) ?_;intro aa U T I ac J;simp only[Nat.zero_add,List.nil_append]at ac J ⊢;exact h aa U T I ac J.own J.below
def YF:Value->World->Prop:=fun v _=>∃ p,v=.slice p 0 0
theorem YF.stable:∀ v w p,Below w.heap.size w p->YF v w->YF v p:=fun _ _ _ _ h=>h
end
def zv (t:List Value) (ds:List Nat) (g:Nat->Value):List Value:=ds.foldl (fun t d=>t.set d (g d)) t
def upd (g:Nat->Value) (d:Nat) (v:Value):Nat->Value:=fun k=>if k=d then v else g k
theorem JM (g:Nat->Value) (k:Nat):∀ (ds:List Nat) (t:List Value),(zv t ds g)[k]? = if k∈ds∧k<t.length then some (g k) else t[k]?
 | [],t=>by simp[zv]
 | d::ds,t=>by
  show (zv (t.set d (g d)) ds g)[k]? = _
  rw[JM g k ds];by_cases p:k∈ds
  ·by_cases I:k<t.length
   ·simp[p,I]
   ·simp[p,I,List.getElem?_set]
    try (intro h;subst h;omega)
  ·by_cases T:k=d
   ·subst T
    by_cases I:k<t.length<;>simp[p,I,List.getElem?_set]
   ·simp[p,T,List.getElem?_set,Ne.symm T]
theorem XA (g:Nat->Value):∀ (ds:List Nat) (t:List Value),(zv t ds g).length=t.length
 | [],_=>rfl
 | d::ds,t=>by show (zv (t.set d (g d)) ds g).length=_;rw[XA g ds];simp
theorem JN {t:List Value}{ds:List Nat}{g:Nat->Value}{d:Nat}(I:d∈ds) (v:Value):(zv t ds g).set d v=zv t ds (upd g d v):=by
 apply List.ext_getElem?;intro k;rw[List.getElem?_set,JM,JM,XA];by_cases p:d=k
 ·subst p
  by_cases U:d<t.length<;>simp[I,U,upd]
 ·have T : ¬ k=d:=fun h=>p h.symm
  simp[p,upd,T]
theorem yb (t:List Value) (ds:List Nat):zv t ds (fun d=>t.getD d undef)=t:=by
 apply List.ext_getElem?;intro k;rw[JM];by_cases h:k∈ds∧k<t.length
 ·simp[h]
 ·rw[if_neg h]
def RAt (Rs:List (Value->World->Prop)) (ds:List Nat) (j:Nat) (g:Nat->Value) (w:World):Prop:=
 match Rs[j]?,ds[j]? with
 | some R,some d=>R (g d) w
 | _,_=>True
def zD (o:Oper):List Nat:=(o.after.toList.filter (Region.binds .any)).map (·.on)
def z7 (T:Act) (d:Nat) (w:World) (R:Value->World->Prop):Exit->Act->World->Prop:=fun e I p=>
 e=.normal∧∃ v,I=T.put (some d) v∧Below w.heap.size w p∧R v p
def Kc (ops:Array Oper) (t:List Value) (ds:List Nat) (i:Nat) (g:Nat->Value):Prop:=
 ∀ (j:Nat) (p:Oper) (d:Nat),ops[j]? = some p->i∈zD p->ds[j]? = some d->g d=t.getD d undef
def qC (R:Value->World->Prop):Prop:=∀ v w p,Below w.heap.size w p->R v w->R v p
structure Jo (P:Program) (ops:Array Oper) (t:List Value) (df:List Deferred) (ds:List Nat) (w1:World) (Rs:List (Value->World->Prop)):Prop where
 short:Rs.length<=ds.length
 stable:∀ R∈Rs,qC R
 ok:∀ (i:Nat) (o:Oper) (d:Nat) (R:Value->World->Prop),ops[i]? = some o->ds[i]? = some d->Rs[i]? = some R->∀ g w,Below w1.heap.size w1 w->(∀ j∈zD o,RAt Rs ds j g w)->Kc ops t ds i g->
  wpList P ops (z7 ⟨(zv t ds g).toArray,df⟩ d w R) [o] ⟨(zv t ds g).toArray,df⟩ w
theorem Jo.nil {P:Program}{ops:Array Oper}{t:List Value}{df:List Deferred}{ds:List Nat}{w1:World}:Jo P ops t df ds w1 []:=
 ⟨Nat.zero_le _,fun _ h=>(by cases h),fun i o d R _ _ h=>(by simp at h)⟩
theorem RAt.pre {Rs:List (Value->World->Prop)}{R:Value->World->Prop}{ds:List Nat}{j:Nat}{g:Nat->Value}{w:World}(h:RAt (Rs++[R]) ds j g w):RAt Rs ds j g w:=by
 unfold RAt at *;rcases Nat.lt_or_ge j Rs.length with p|p
 ·rw[List.getElem?_append_left p]at h;exact h
 ·rw[List.getElem?_eq_none p];trivial
theorem Jo.step {P:Program}{ops:Array Oper}{t:List Value}{df:List Deferred}{ds:List Nat}{w1:World}{Rs:List (Value->World->Prop)}(h:Jo P ops t df ds w1 Rs) (R:Value->World->Prop)
  {o:Oper} {d:Nat} (aq:ops[Rs.length]? = some o) (ac:ds[Rs.length]? = some d) (ak:qC R)
  (hk:∀ g w,Below w1.heap.size w1 w->(∀ j∈zD o,RAt Rs ds j g w)->Kc ops t ds Rs.length g->wpList P ops (z7 ⟨(zv t ds g).toArray,df⟩ d w R) [o] ⟨(zv t ds g).toArray,df⟩ w):
  Jo P ops t df ds w1 (Rs++[R]):=by
 refine⟨by have:=(List.getElem?_eq_some_iff.1 ac).1;simp;omega,fun I p=>?_,fun i U aa I ag ad p g w ab al ah=>?_⟩
 ·rcases List.mem_append.1 p with T|T
  ·exact h.stable I T
  ·rw[List.mem_singleton.1 T];exact ak
 ·have ae : ∀ j∈zD U,RAt Rs ds j g w:=fun j ao=>(al j ao).pre
  rcases Nat.lt_or_ge i Rs.length with af|af
  ·rw[List.getElem?_append_left af]at p
   exact h.ok i U aa I ag ad p g w ab ae ah
  ·have an : i=Rs.length:=by
    have:=(List.getElem?_eq_some_iff.1 p).1;simp at this;omega
   subst an;have ai:U=o:=Option.some.inj (ag.symm.trans aq);have e2:aa=d:=Option.some.inj (ad.symm.trans ac);have aj:I=R:=by simpa using p.symm
   subst ai;subst e2;subst aj;exact hk g w ab ae ah
theorem Oper.wp_mono2 {P:Program}{Q aa : Exit->Act->World->Prop}{o:Oper}{a:Act}{w:World}{K T : Act->World->Prop}(h:∀ a w,K a w->T a w)
  (U:∀ c a w,¬ Q (.panic c) a w) (ab:∀ a w,¬ Q .outgrown a w) (p:o.wp P a w K Q):o.wp P a w T aa:=by
 unfold Oper.wp at *;generalize (execOp a.eval o).run P w=r at *;cases r with
 | ok n w'=>
  cases n<;>simp only[Oper.upon]at p ⊢<;>
   first
    | exact h _ _ p
    | exact Calls.mono p (fun e ad I=>by
      cases e with
      | returned v=>exact h _ _ I
      | panicked c=>exact(U _ _ _ I).elim
      | outgrown=>obtain⟨a,w,ac⟩:=I;exact(ab _ _ ac).elim)
    | exact Rows.mono p (fun _ _ I=>h _ _ I)
 | halt x w'=>
  cases x<;>simp only[Oper.upon]at p ⊢
  case panic v=>exact(U _ _ _ p).elim
theorem yV {P:Program}{ops:Array Oper}{Q aa : Exit->Act->World->Prop}{i:Nat}{o:Oper}{a:Act}{w:World}{K:Act->World->Prop}(hi:ops[i]? = some o)
  (ab:∀ c a w,¬ Q (.panic c) a w) (U:∀ a w,¬ Q .outgrown a w) (T:∀ a w,Q .normal a w->K a w) (h:wpList P ops Q [o] a w):wpOp P ops aa i K a w:=by
 unfold wpOp;simp only[hi];unfold wpList at h;split
 ·rename_i I
  rw[if_pos I]at h;rcases h with h|⟨_,ac,ad,p⟩
  ·exact .inl (Oper.wp_mono2 (fun a w p=>T a w p) ab U h)
  ·exact(U _ _ p).elim
 ·rename_i I
  rw[if_neg I]at h;exact T _ _ h
def Region.orderB (ops:Array Oper):Bool:=(List.range ops.size).all fun i=>match ops[i]? with|some o=>(zD o).all (fun j=>decide (j<i))|none=>true
def Region.fullA (ops:Array Oper) (n:Nat):Array Bool:=((List.range ops.size).map fun i=>decide (i<n)).toArray
def Region.dstB (ops:Array Oper) (ds:List Nat):Bool:=(List.range ds.length).all fun i=>((ops[i]?).bind (·.dst))==ds[i]?
def Region.drawB (ops:Array Oper) (ds:List Nat):Bool:=
 Region.orderB ops&&Region.dstB ops ds&&decide ds.Nodup&&Region.seqB .any ops (ops.size - ds.length) ds.length (Region.fullA ops ds.length) &&
  (decide (ds.length=ops.size) || (decide (ds.length<ops.size)&&Region.sinkB .any ops ds.length&&Region.chainB .any ops ds.length))
theorem QY {p p' : Nat->Bool}{i:Nat}:∀ (l:List Nat),l.Nodup->i∈l->p i=true->p' i=false->(∀ k,k≠i->p' k=p k)->(l.filter p).length=(l.filter p').length+1
 | [],_,h,_,_,_=>by cases h
 | x::l,hn,hm,h1,h2,h3=>by
  simp only[List.nodup_cons]at hn;by_cases I:x=i
  ·subst I
   have e:l.filter p'=l.filter p:=List.filter_congr fun k T=>h3 k (fun U=>hn.1 (U▸T))
   simp[List.filter_cons,h1,h2,e]
  ·have aa : i∈l:=by rcases List.mem_cons.1 hm with h|h;exact(I h.symm).elim;exact h
   have ih:=QY l hn.2 aa h1 h2 h3;have e:=h3 x I;cases ab:p x<;>simp[List.filter_cons,ab,e,ih]
section
variable {P : Program} {ops : Array Oper} {Q : Exit -> Act -> World -> Prop} {t : List Value} {df : List Deferred} {ds : List Nat} {w1 : World} {Rs : List (Value -> World -> Prop)}
theorem Uv {o:Oper}{e:Edge}(p:e∈o.after) (hb:Region.binds .any e=true):e.on∈zD o:=by
 unfold zD;exact List.mem_map.2 ⟨e,List.mem_filter.2 ⟨by simpa using p,hb⟩,rfl⟩
theorem QZ {o:Oper}{j:Nat}(h:j∈zD o):∃ e∈o.after,Region.binds .any e=true∧e.on=j:=by
 unfold zD at h;obtain⟨e,T,rfl⟩:=List.mem_map.1 h;obtain⟨p,I⟩:=List.mem_filter.1 T;exact⟨e,by simpa using p,I,rfl⟩
theorem y7 (h:Region.orderB ops=true) {i:Nat}{o:Oper}(hi:ops[i]? = some o) {j:Nat}(I:j∈zD o):j<i:=by
 have T:=(Array.getElem?_eq_some_iff.1 hi).1;have p:=List.all_eq_true.1 h i (List.mem_range.2 T);simp only[hi]at p;simpa using List.all_eq_true.1 p j I
theorem J6 (af:Region.orderB ops=true) {n:Nat}(hn:n<=ops.size) {listed:Array Bool}(ai:listed.size=ops.size):∀ (i:Nat),i<n->listed.getD i true=false->Region.ready .any ops listed≠[]:=by
 intro i;induction i using Nat.strongRecOn with
 | _ i ih=>
  intro ah ag aa;have ae:i<ops.size:=by omega
  have U:ops[i]? = some ops[i]:=Array.getElem?_eq_getElem ae;by_cases T:∀ e∈ops[i].after,Region.binds .any e=true->listed.getD e.on false=true
  ·have:i∈Region.ready .any ops listed:=mem_ready.2 ⟨ag,_,U,T⟩
   rw[aa]at this;cases this
  ·obtain⟨e,p⟩:=Classical.not_forall.1 T
   obtain⟨p,ab⟩:=Classical.not_imp.1 p;obtain⟨ac,I⟩:=Classical.not_imp.1 ab;replace I:listed.getD e.on false=false:=by simpa using I
   have ad:=y7 af U (Uv p ac);exact ih e.on ad (by omega) (getD_in (by omega) I) aa
theorem Uw {n i:Nat}{listed:Array Bool}{g:Nat->Value}(U:HeadInv .any ops n listed) (ag:listed.getD i true=false) (aa:∀ j d,ds[j]? = some d->listed.getD j true=false->g d=t.getD d undef):Kc ops t ds i g:=by
 intro j ah d T ae ac;refine aa j d ac ?_;obtain⟨e,ad,ab,af⟩:=QZ ae;cases I:listed.getD j false with
 | false=>exact getD_in (by rw[U.size];exact(Array.getElem?_eq_some_iff.1 T).1) I
 | true=>
  have p:=U.closed j ah T I e ad ab;rw[af,getD_both ag]at p;cases p
theorem Gq {i d0:Nat}{listed:Array Bool}{g:Nat->Value}{v:Value}(ad:ds.Nodup) (af:ds[i]? = some d0) (ae:∀ j d,ds[j]? = some d->listed.getD j true=false->g d=t.getD d undef):
  ∀ j d,ds[j]? = some d->(listed.setIfInBounds i true).getD j true=false->upd g d0 v d=t.getD d undef:=by
 intro j d ab p;by_cases I:j=i
 ·subst I
  by_cases ac:j<listed.size
  ·simp[ac]at p
  ·simp[ac]at p
 ·rw[getD_set_ne true (Ne.symm I)]at p
  have ag:d≠d0:=by
   rintro rfl;obtain⟨U,T⟩:=List.getElem?_eq_some_iff.1 ab;obtain⟨aa,e2⟩:=List.getElem?_eq_some_iff.1 af;rcases Nat.lt_or_gt_of_ne I with h|h
   ·exact List.pairwise_iff_getElem.1 ad j i U aa h (T.trans e2.symm)
   ·exact List.pairwise_iff_getElem.1 ad i j aa U h (e2.trans T.symm)
  rw[show upd g d0 v d=g d from if_neg ag];exact ae j d ab p
theorem XB (ar:Region.drawB ops ds=true) (aR:Rs.length=ds.length) (au:Jo P ops t df ds w1 Rs)
  (aB:∀ g w,Below w1.heap.size w1 w->(∀ j,j<ds.length->RAt Rs ds j g w)->wpList P ops Q (ops.toList.drop ds.length) ⟨(zv t ds g).toArray,df⟩ w):
  ∀ (c:Nat) (listed:Array Bool) (g:Nat->Value) (w:World),HeadInv .any ops ds.length listed->((List.range ds.length).filter fun i=>!listed.getD i true).length=c->
   Below w1.heap.size w1 w->(∀ j,j<ds.length->listed.getD j false=true->RAt Rs ds j g w)->(∀ j d,ds[j]? = some d->listed.getD j true=false->g d=t.getD d undef)->
   wpAny P .any ops Q (c+(ops.size - ds.length)) listed ⟨(zv t ds g).toArray,df⟩ w:=by
 simp only[Region.drawB,Bool.and_eq_true,Bool.or_eq_true,decide_eq_true_eq]at ar;obtain⟨⟨⟨⟨a1,aQ⟩,aq⟩,aL⟩,a2⟩:=ar;have aH:ds.length<=ops.size:=by rcases a2 with h|h<;>omega
 intro c;induction c with
 | zero=>
  intro listed g w T ai ae ag al;have ah:∀ i,i<ds.length->listed.getD i false=true:=by
   intro i U;have ac:=List.length_eq_zero_iff.1 ai;have aa:i ∉ ((List.range ds.length).filter fun i=>!listed.getD i true):=by rw[ac];simp
   have ad:listed.getD i true=true:=by
    cases aD:listed.getD i true with
    | true=>rfl
    | false=>exact(aa (List.mem_filter.2 ⟨List.mem_range.2 U,by simp[aD]⟩)).elim
   have aE:i<listed.size:=by rw[T.size];omega
   simp[aE]at ad ⊢;exact ad
  have aC:listed=Region.fullA ops ds.length:=by
   apply Array.ext
   ·simp[Region.fullA,T.size]
   ·intro i aa ad
    simp only[Region.fullA,List.getElem_toArray,List.getElem_map,List.getElem_range];by_cases U:i<ds.length
    ·have:=ah i U;simp[aa]at this;simp[U,this]
    ·have:=T.tail i (by omega) (by rw[<- T.size];exact aa);simp[aa]at this;simp[U,this]
  have af:(ops.toList.drop ds.length).length=ops.size - ds.length:=by simp
  rw[Nat.zero_add,<- af];refine wpAny_of_seq _ ds.length listed _ w (fun j=>by simp) (by rw[af,aC];exact aL) (aB g w ae fun j I=>ag j I (ah j I))
 | succ c ih=>
  intro listed g w T ai ae ag al;obtain⟨a5,a0,a3⟩:∃ i,i<ds.length∧listed.getD i true=false:=by
   cases az:(List.range ds.length).filter fun i=>!listed.getD i true with
   | nil=>rw[az]at ai;cases ai
   | cons i l=>
    have:i∈(List.range ds.length).filter fun i=>!listed.getD i true:=by rw[az];exact List.mem_cons_self
    obtain⟨aa,ad⟩:=List.mem_filter.1 this;exact⟨i,List.mem_range.1 aa,by simpa using ad⟩
  rw[show c+1+(ops.size - ds.length)=(c+(ops.size - ds.length))+1 by omega];refine⟨fun h=>absurd h (J6 a1 aH T.size a5 a0 a3),fun i U=>?_⟩;obtain⟨a4,o,aj,ah⟩:=mem_ready.1 U;have ab:i<ds.length:=by
   rcases a2 with h|⟨⟨h,aK⟩,a9⟩
   ·rw[h];exact(Array.getElem?_eq_some_iff.1 aj).1
   ·rcases Nat.lt_or_ge i ds.length with ak | ak
    ·exact ak
    ·exact absurd U (tail_waits aK a9 h T _ a5 rfl a0 a3 i ak)
  have ax:ds[i]? = some ds[i]:=List.getElem?_eq_getElem ab;have a6:Rs[i]? = some (Rs[i]'(by omega)):=List.getElem?_eq_getElem (by omega);have aA:∀ j∈zD o,RAt Rs ds j g w:=fun j I=>by
   obtain⟨e,an,a8,rfl⟩:=QZ I;have:=y7 a1 aj I;exact ag _ (by omega) (ah e an a8)
  refine yV aj (fun _ _ _ h=>by cases h.1) (fun _ _ h=>by cases h.1) (fun aO aN h=>?_) (au.ok i o _ _ aj ax a6 g w ae aA (Uw T a4 al));obtain⟨_,v,rfl,aw,aM⟩:=h;have aJ:(⟨(zv t ds g).toArray,df⟩:Act).put (some ds[i]) v=⟨(zv t ds (upd g ds[i] v)).toArray,df⟩:=by
   simp only[Act.put,List.setIfInBounds_toArray];rw[JN (List.getElem_mem ab)]
  rw[aJ];have a7 : Below w1.heap.size w1 aN:=ae.trans (aw.mono ae.size);refine ih _ _ _ (T.set U ab) ?_ a7 (fun j I af=>?_) (Gq aq ax al)
  ·have aP:=QY (p:=fun k=>!listed.getD k true) (p':=fun k=>!(listed.setIfInBounds i true).getD k true) (i:=i) (List.range ds.length) List.nodup_range (List.mem_range.2 ab) (by simp[a4])
    (by
     have:i<listed.size:=by rw[T.size];omega
     simp[this])
    (fun k aF=>by rw[getD_set_ne true (Ne.symm aF)])
   omega
  ·have ay:ds[j]? = some ds[j]:=List.getElem?_eq_getElem I
   have av:Rs[j]? = some (Rs[j]'(by omega)):=List.getElem?_eq_getElem (by omega);by_cases ao:j=i
   ·subst ao
    unfold RAt;simp only[ay,av,upd,if_true];exact aM
   ·rw[getD_set_ne false (Ne.symm ao)]at af
    have ac:=ag j I af;unfold RAt at ac ⊢;simp only[ay,av]at ac ⊢;have aI:ds[j]≠ds[i]:=by
     rcases Nat.lt_or_gt_of_ne ao with h|h
     ·exact List.pairwise_iff_getElem.1 aq j i I ab h
     ·exact fun an=>List.pairwise_iff_getElem.1 aq i j ab I h an.symm
    rw[show upd g ds[i] v ds[j]=g ds[j] from if_neg aI];exact au.stable _ (List.getElem_mem _) _ _ _ aw ac
theorem zai {id:Nat}{L:List zg}{D:List zl}{w0:World}(ad:P.follows .mixedOrders=true) (J:Loc w0 w1 L D) (I:Region.drawB ops ds=true) (ac:Rs.length=ds.length) (T:Jo P ops t df ds w1 Rs)
  (U:∀ g w,Below w1.heap.size w1 w->(∀ j,j<ds.length->RAt Rs ds j g w)->wpList P ops Q (ops.toList.drop ds.length) ⟨(zv t ds g).toArray,df⟩ w):(Code.region id ops true).wp P Q ⟨t.toArray,df⟩ w1:=by
 refine wp_region_any ad ?_;have ae:ds.length<=ops.size:=by
  simp only[Region.drawB,Bool.and_eq_true,Bool.or_eq_true,decide_eq_true_eq]at I;rcases I.2 with h|h<;>omega
 have h:=XB (Q:=Q) I ac T U ds.length (Array.replicate ops.size false) (fun d=>t.getD d undef) w1.drew
  ⟨by simp,fun j af _ p=>(by rw[getD_replicate_false]at p;cases p),fun k _ ab=>(by simp[ab])⟩
  (by
   have:((List.range ds.length).filter fun i=>!(Array.replicate ops.size false).getD i true)=List.range ds.length:=by
    rw[List.filter_eq_self];intro i aa;have:i<ops.size:=by have:=List.mem_range.1 aa;omega
    simp[this]
   rw[this];simp)
  ((Below.refl _ _).drew) (fun j _ p=>(by rw[getD_replicate_false]at p;cases p)) (fun _ _ _ _=>rfl)
 rw[yb,show ds.length+(ops.size - ds.length)=ops.size by omega]at h;exact h
def j7 (Rs:List (Value->World->Prop)) (ds:List Nat) (g:Nat->Value) (w:World):List Nat->Prop
 | []=>True
 | j::l=>RAt Rs ds j g w∧j7 Rs ds g w l
theorem Jp {g:Nat->Value}{w:World}:∀ {l:List Nat},(∀ j∈l,RAt Rs ds j g w)->j7 Rs ds g w l
 | [],_=>trivial
 | _::_,h=>⟨h _ List.mem_cons_self,Jp fun j p=>h j (List.mem_cons_of_mem _ p)⟩
theorem jo (w:World) (o:Obj):(w.alloc o).heap[w.heap.size]? = some o:=by
 show (w.heap.push _)[w.heap.size]? = _;simp
def ziv (E:TypeId) (n:Nat) (p:List Value):Value->World->Prop:=fun v w=>∃ b,v=.slice (some ⟨b,0,none⟩) n n∧w.heap[b]? = some (.cells p.toArray E (0,0))
def UQ (B:Nat) (T:TypeId) (p:List Value):Value->World->Prop:=fun v w=>∃ b,B<=b∧v=.pointer (some ⟨b,0,none⟩)∧w.heap[b]? = some (.cells p.toArray T (0,0))
def zdB (B:Nat) (E:TypeId) (n:Nat) (p:List Value):Value->World->Prop:=fun v w=>∃ b,B<=b∧v=.slice (some ⟨b,0,none⟩) n n∧w.heap[b]? = some (.cells p.toArray E (0,0))
theorem zdB.stable {B E n cs}:qC (zdB B E n cs):=by
 rintro v w U I ⟨b,h,T,p⟩;exact⟨b,h,T,(I.block _ (zz p)).trans p⟩
theorem Qq {Rs:List (Value->World->Prop)}{ds:List Nat}{g:Nat->Value}{w:World}:∀ {l:List Nat}{j:Nat},j7 Rs ds g w l->j∈l->RAt Rs ds j g w
 | [],_,_,h=>by cases h
 | x::l,j,h,p=>by
  rcases List.mem_cons.1 p with rfl|p
  ·exact h.1
  ·exact Qq h.2 p
theorem ziv.stable {E n cs}:qC (ziv E n cs):=by
 rintro v w U I ⟨b,T,p⟩;exact⟨b,T,(I.block _ (zz p)).trans p⟩
theorem UQ.stable {B T cs}:qC (UQ B T cs):=by
 rintro v w aa I ⟨b,h,U,p⟩;exact⟨b,h,U,(I.block _ (zz p)).trans p⟩
theorem zP {w:World}{b:Nat}{p:List Value}{T:TypeId}(h:w.heap[b]? = some (.cells p.toArray T (0,0))) (j:Nat) {v:Value}(I:p[j]? = some v):w.cell? ⟨b,j,none⟩=some v:=by
 simp[World.cell?,h,I]
def zw (P:Program) (ops:Array Oper) (C:Prop) (t:List Value) (df:List Deferred) (ds:List Nat) (w1:World) (Rs:List (Value->World->Prop)) (os:List Oper) (dr:List Nat):Prop:=
 ops.toList.drop Rs.length=os->ds.drop Rs.length=dr->Jo P ops t df ds w1 Rs->C
theorem zb {id:Nat}{l:List Oper}(ds:List Nat) (h:zw P l.toArray ((Code.region id l.toArray true).wp P Q ⟨t.toArray,df⟩ w1) t df ds w1 [] l ds):(Code.region id l.toArray true).wp P Q ⟨t.toArray,df⟩ w1:=h rfl rfl Jo.nil
theorem ZZ {p:Type}{l:List p}{k:Nat}{x:p}{r:List p}(h:l.drop k=x::r):l[k]? = some x∧l.drop (k+1)=r:=by
 have I:(l.drop k)[0]? = some x:=by rw[h];rfl
 refine⟨by simpa using I,?_⟩;rw[<- List.drop_drop,h];rfl
theorem JO {C:Prop}(R:Value->World->Prop) {o:Oper}{os:List Oper}{d:Nat}{dr:List Nat}(ad:qC R)
  (hk:∀ g w,Below w1.heap.size w1 w->j7 Rs ds g w (zD o)->wpList P ops (z7 ⟨(zv t ds g).toArray,df⟩ d w R) [o] ⟨(zv t ds g).toArray,df⟩ w)
  (h:zw P ops C t df ds w1 (Rs++[R]) os dr):zw P ops C t df ds w1 Rs (o::os) (d::dr):=fun aa ab ac=>by
 obtain⟨p,I⟩:=ZZ aa;obtain⟨T,U⟩:=ZZ ab;exact h (by simpa using I) (by simpa using U) (ac.step R (by simpa using p) T ad fun g w ae Z _=>hk g w ae (Jp Z))
def Vg (ops:Array Oper) (ds:List Nat) (i:Nat) (I:List (Nat × Nat)):Bool:=I.all fun p=>(ds[p.1]? == some p.2)&&(match ops[p.1]? with|some oj=>(zD oj).contains i|none=>false)
def zdC (t:List Value) (g:Nat->Value):List (Nat × Nat)->Prop
 | []=>True
 | p::l=>g p.2=t.getD p.2 undef∧zdC t g l
theorem zcX {i:Nat}{g:Nat->Value}(U:Kc ops t ds i g):∀ {aa:List (Nat × Nat)},Vg ops ds i aa=true->zdC t g aa
 | [],_=>trivial
 | p::l,h=>by
  simp only[Vg,List.all_cons,Bool.and_eq_true,beq_iff_eq]at h;obtain⟨⟨ab,I⟩,ac⟩:=h;refine⟨?_,zcX U ac⟩;cases T:ops[p.1]? with
  | none=>simp[T]at I
  | some oj=>simp only[T,List.contains_iff_mem]at I;exact U _ _ _ T I ab
theorem zbH {C:Prop}(R:Value->World->Prop) (p:List (Nat × Nat)) (i:Nat) {o:Oper}{os:List Oper}{d:Nat}{dr:List Nat}(ae:qC R) (hi:Rs.length=i) (ah:Vg ops ds i p=true)
  (hk:∀ g w,Below w1.heap.size w1 w->j7 Rs ds g w (zD o)->zdC t g p->wpList P ops (z7 ⟨(zv t ds g).toArray,df⟩ d w R) [o] ⟨(zv t ds g).toArray,df⟩ w)
  (h:zw P ops C t df ds w1 (Rs++[R]) os dr):zw P ops C t df ds w1 Rs (o::os) (d::dr):=fun ab ac ad=>by
 subst hi;obtain⟨I,T⟩:=ZZ ab;obtain⟨U,aa⟩:=ZZ ac;exact h (by simpa using T) (by simpa using aa) (ad.step R (by simpa using I) U ae fun g w ag Z af=>hk g w ag (Jp Z) (zcX af ah))
theorem zdD {C:Prop}(p:List (Nat × Nat)) (i:Nat) {x:Value}{o:Oper}{os:List Oper}{d:Nat}{dr:List Nat}(hi:Rs.length=i) (I:Vg ops ds i p=true)
  (hk:∀ g w,Below w1.heap.size w1 w->j7 Rs ds g w (zD o)->zdC t g p->wpList P ops (z7 ⟨(zv t ds g).toArray,df⟩ d w (fun v _=>v=x)) [o] ⟨(zv t ds g).toArray,df⟩ w)
  (h:zw P ops C t df ds w1 (Rs++[fun v _=>v=x]) os dr):zw P ops C t df ds w1 Rs (o::os) (d::dr):=zbH _ p i (fun _ _ _ _ h=>h) hi I hk h
theorem Qr {C:Prop}{x:Value}{o:Oper}{os:List Oper}{d:Nat}{dr:List Nat}
  (hk:∀ g w,Below w1.heap.size w1 w->j7 Rs ds g w (zD o)->wpList P ops (z7 ⟨(zv t ds g).toArray,df⟩ d w (fun v _=>v=x)) [o] ⟨(zv t ds g).toArray,df⟩ w)
  (h:zw P ops C t df ds w1 (Rs++[fun v _=>v=x]) os dr):zw P ops C t df ds w1 Rs (o::os) (d::dr):=JO _ (fun _ _ _ _ h=>h) hk h
theorem zaj {id:Nat}{os:List Oper}{L:List zg}{D:List zl}{w0:World}(J:Loc w0 w1 L D) (ah:P.follows .mixedOrders=true) (aa:Region.drawB ops ds=true)
  (ad:∀ g w,Below w1.heap.size w1 w->j7 Rs ds g w (List.range Rs.length)->wpList P ops Q os ⟨(zv t ds g).toArray,df⟩ w):zw P ops ((Code.region id ops true).wp P Q ⟨t.toArray,df⟩ w1) t df ds w1 Rs os []:=
 fun T U I=>by
  have ag:Rs.length<=ds.length:=I.short;have ae:ds.length<=Rs.length:=List.drop_eq_nil_iff.1 U;have p:Rs.length=ds.length:=Nat.le_antisymm ag ae;exact zai ah J aa p I (fun g w ac ab=>by
   rw[<- p,T];exact ad g w ac (Jp fun j af=>ab j (by rw[<- p];exact List.mem_range.1 af)))
def Region.sinkF (ops:Array Oper) (n:Nat) (p:List Nat):Bool:=
 (List.range n).all fun i=>p.contains i || (List.range (n+1)).any fun j=>decide (i<j) && !p.contains j&&Region.waitsFor .any ops j i
def Region.lateB (ops:Array Oper) (p:List Nat):Bool:=
 Region.noSelect ops&&p.all fun i=>match ops[i]? with
  | some oi=>(List.range ops.size).all fun j=>decide (j=i) || Region.waitsFor .any ops j i || Region.waitsFor .any ops i j || (match ops[j]? with|some oj=>oi.apart ops oj|none=>true)
  | none=>false
def Region.drawF (ops:Array Oper) (ds p:List Nat):Bool:=
 Region.orderB ops&&Region.dstB ops ds&&decide ds.Nodup&&Region.seqB .any ops (ops.size - ds.length) ds.length (Region.fullA ops ds.length) &&
  (decide (ds.length<ops.size)&&Region.sinkF ops ds.length p&&Region.chainB .any ops ds.length)&&Region.lateB ops p
theorem zak {n:Nat}{ad:List Nat}{listed:Array Bool}(ay:Region.sinkF ops n ad=true) (hc:Region.chainB .any ops n=true) (hn:n<ops.size) (ac:HeadInv .any ops n listed):
  ∀ (d i:Nat),n - i=d->i<n->i ∉ ad->listed.getD i true=false->∀ t,n<=t->t ∉ Region.ready .any ops listed:=by
 intro d;induction d using Nat.strongRecOn with
 | _ d ih=>
  intro i a2 ao an aj t a5 ai;obtain⟨_,al,ab,ae⟩:=mem_ready.1 ai;have az:t<ops.size:=(Array.getElem?_eq_some_iff.1 ab).1;by_cases a0:t=n
  ·subst a0
   have p:=List.all_eq_true.1 ay i (List.mem_range.2 ao);simp only[Bool.or_eq_true,List.contains_iff_mem]at p;rcases p with p|p
   ·exact an p
   obtain⟨j,aq,af⟩:=List.any_eq_true.1 p;simp only[Bool.and_eq_true,decide_eq_true_eq,Bool.not_eq_true',List.contains_eq_mem,decide_eq_false_iff_not]at af;obtain⟨⟨a3,ar⟩,aw⟩:=af;obtain⟨ak,ah,e,U,T,aa⟩:=Region.waitsFor_spec aw;have a4:j<=t:=by have:=List.mem_range.1 aq;omega
   by_cases av:j=t
   ·subst av
    have:ak=al:=Option.some.inj (ah.symm.trans ab);subst this;have I:=ae e U T;rw[aa,getD_both aj]at I;cases I
   ·cases ag:listed.getD j false with
    | true=>
     have I:=ac.closed j ak ah ag e U T;rw[aa,getD_both aj]at I;cases I
    | false=>
     have au:j<listed.size:=by rw[ac.size];omega
     exact ih (t - j) (by omega) j rfl (by omega) ar (getD_in au ag) t (Nat.le_refl _) ai
  ·have p:=List.all_eq_true.1 hc t (List.mem_range.2 az)
   simp only[Bool.or_eq_true,decide_eq_true_eq]at p;rcases p with p|p
   ·omega
   ·obtain⟨a1,ax,e,U,T,aa⟩:=Region.waitsFor_spec p
    have:a1=al:=Option.some.inj (ax.symm.trans ab);subst this;have I:=ae e U T;rw[aa,getD_both (ac.tail (t - 1) (by omega) (by omega))]at I;cases I
theorem zeN (p:Nat->Prop):∀ (n:Nat),p n->∃ m,p m∧∀ k,k<m->¬ p k:=by
 intro n;induction n using Nat.strongRecOn with
 | _ n ih=>
  intro h;by_cases I:∃ k,k<n∧p k
  ·obtain⟨k,I,T⟩:=I;exact ih k I T
  ·exact⟨n,h,fun k U T=>I ⟨k,U,T⟩⟩
theorem zbI {au:List Nat}(aA:Region.drawF ops ds au=true) (bu:Rs.length=ds.length) (aB:Jo P ops t df ds w1 Rs) (aT:∀ c a (d:Nat) v w,Q (.panic c) (a.put (some d) v) w->Q (.panic c) a w)
  (aS:∀ i∈au,∀ o d R,ops[i]? = some o->ds[i]? = some d->Rs[i]? = some R->∀ g w,Below w1.heap.size w1 w->j7 Rs ds g w (zD o)->∃ v,Yields P ops o v ⟨(zv t ds g).toArray,df⟩∧R v w)
  (bc:∀ g w,Below w1.heap.size w1 w->(∀ j,j<ds.length->RAt Rs ds j g w)->wpList P ops Q (ops.toList.drop ds.length) ⟨(zv t ds g).toArray,df⟩ w):
  ∀ (c:Nat) (listed:Array Bool) (g:Nat->Value) (w:World),HeadInv .any ops ds.length listed->((List.range ds.length).filter fun i=>!listed.getD i true).length=c->
   Below w1.heap.size w1 w->(∀ j,j<ds.length->listed.getD j false=true->RAt Rs ds j g w)->(∀ j d,ds[j]? = some d->listed.getD j true=false->g d=t.getD d undef)->
   wpAny P .any ops Q (c+(ops.size - ds.length)) listed ⟨(zv t ds g).toArray,df⟩ w:=by
 simp only[Region.drawF,Bool.and_eq_true,decide_eq_true_eq]at aA;obtain⟨⟨⟨⟨⟨a6,ba⟩,ay⟩,bp⟩,⟨bq,bo⟩,aV⟩,a2⟩:=aA;have bj:ds.length<=ops.size:=by omega
 have step:∀ {listed:Array Bool} {i:Nat} {d:Nat} {R:Value->World->Prop} {g:Nat->Value} {w w' : World} {v:Value},HeadInv .any ops ds.length listed->i∈Region.ready .any ops listed->(T:i<ds.length)->ds[i]? = some d->Rs[i]? = some R->
   Below w.heap.size w w'->R v w'->(∀ j,j<ds.length->listed.getD j false=true->RAt Rs ds j g w)->
   (∀ j,j<ds.length->(listed.setIfInBounds i true).getD j false=true->RAt Rs ds j (upd g d v) w')∧
   ((List.range ds.length).filter fun k=>!listed.getD k true).length=((List.range ds.length).filter fun k=>!(listed.setIfInBounds i true).getD k true).length+1:=by
  intro listed i d R g w w' v U I T aa ai aw ar ah;obtain⟨az,o,ab,ae⟩:=mem_ready.1 I;refine⟨fun j af al=>?_,QY (p:=fun k=>!listed.getD k true) (p':=fun k=>!(listed.setIfInBounds i true).getD k true) (i:=i) (List.range ds.length) List.nodup_range (List.mem_range.2 T) (by simp[az])
    (by
     have:i<listed.size:=by rw[U.size];omega
     simp[this])
    (fun k bi=>by rw[getD_set_ne true (Ne.symm bi)])⟩
  have aZ:ds[j]? = some ds[j]:=List.getElem?_eq_getElem af;have aU:Rs[j]? = some (Rs[j]'(by omega)):=List.getElem?_eq_getElem (by omega);by_cases aq:j=i
  ·subst aq
   unfold RAt;simp only[aa,ai,upd,if_true];exact ar
  ·rw[getD_set_ne false (Ne.symm aq)]at al
   have an:=ah j af al;unfold RAt at an ⊢;simp only[aZ,aU]at an ⊢;have aY : d=ds[i]:=by rw[List.getElem?_eq_getElem T]at aa;exact(Option.some.inj aa).symm
   have bl:ds[j]≠d:=by
    rw[aY];rcases Nat.lt_or_gt_of_ne aq with h|h
    ·exact List.pairwise_iff_getElem.1 ay j i af T h
    ·exact fun ag=>List.pairwise_iff_getElem.1 ay i j T af h ag.symm
   rw[show upd g d v ds[j]=g ds[j] from if_neg bl];exact aB.stable _ (List.getElem_mem _) _ _ _ aw an
 have aN:∀ (g:Nat->Value) (i d:Nat) (v:Value),ds[i]? = some d->(⟨(zv t ds g).toArray,df⟩:Act).put (some d) v=⟨(zv t ds (upd g d v)).toArray,df⟩:=by
  intro g i d v aW;simp only[Act.put,List.setIfInBounds_toArray];rw[JN (List.mem_of_getElem? aW)]
 intro c;induction c with
 | zero=>
  intro listed g w U ax aj ah av;have ae:∀ i,i<ds.length->listed.getD i false=true:=by
   intro i I;have an:=List.length_eq_zero_iff.1 ax;have ac:i ∉ ((List.range ds.length).filter fun i=>!listed.getD i true):=by rw[an];simp
   have ao:listed.getD i true=true:=by
    cases be:listed.getD i true with
    | true=>rfl
    | false=>exact(ac (List.mem_filter.2 ⟨List.mem_range.2 I,by simp[be]⟩)).elim
   have bf:i<listed.size:=by rw[U.size];omega
   simp[bf]at ao ⊢;exact ao
  have bd:listed=Region.fullA ops ds.length:=by
   apply Array.ext
   ·simp[Region.fullA,U.size]
   ·intro i ac ao
    simp only[Region.fullA,List.getElem_toArray,List.getElem_map,List.getElem_range];by_cases I:i<ds.length
    ·have:=ae i I;simp[ac]at this;simp[I,this]
    ·have:=U.tail i (by omega) (by rw[<- U.size];exact ac);simp[ac]at this;simp[I,this]
  have al:(ops.toList.drop ds.length).length=ops.size - ds.length:=by simp
  rw[Nat.zero_add,<- al];refine wpAny_of_seq _ ds.length listed _ w (fun j=>by simp) (by rw[al,bd];exact bp) (bc g w aj fun j af=>ah j af (ae j af))
 | succ c ih=>
  intro listed g w U ax aj ah av;have a8:∀ {i:Nat} {o:Oper},i<ds.length->ops[i]? = some o->(∀ e∈o.after,Region.binds .any e=true->listed.getD e.on false=true)->∀ j∈zD o,RAt Rs ds j g w:=by
   intro i o T ab ae j af;obtain⟨e,ag,ak,rfl⟩:=QZ af;have:=y7 a6 ab af;exact ah _ (by omega) (ae e ag ak)
  obtain⟨aP,aD,aO⟩:∃ i,i<ds.length∧listed.getD i true=false:=by
   cases aC:(List.range ds.length).filter fun i=>!listed.getD i true with
   | nil=>rw[aC]at ax;cases ax
   | cons i l=>
    have:i∈(List.range ds.length).filter fun i=>!listed.getD i true:=by rw[aC];exact List.mem_cons_self
    obtain⟨ac,ao⟩:=List.mem_filter.1 this;exact⟨i,List.mem_range.1 ac,by simpa using ao⟩
  rw[show c+1+(ops.size - ds.length)=(c+(ops.size - ds.length))+1 by omega];by_cases aH:∃ i,i∈au∧i<ds.length∧i∈Region.ready .any ops listed
  ·obtain⟨i,aE,T,I⟩:=aH
   obtain⟨az,o,ab,ae⟩:=mem_ready.1 I;have aa:ds[i]? = some ds[i]:=List.getElem?_eq_getElem T;have ai:Rs[i]? = some (Rs[i]'(by omega)):=List.getElem?_eq_getElem (by omega);obtain⟨v,br,ar⟩:=aS i aE o _ _ ab aa ai g w aj (Jp (a8 T ab ae));have aM:o.dst=some ds[i]:=by
    have ac:=List.all_eq_true.1 ba i (List.mem_range.2 T);simp only[ab,Option.bind_some,beq_iff_eq]at ac;rw[ac];exact aa
   simp only[Region.lateB,Bool.and_eq_true]at a2;have aF:=List.all_eq_true.1 a2.2 i aE;simp only[ab]at aF;refine wpAny_first ab (fun j o aQ b bn=>Region.noSelect_spec a2.1 j o aQ b bn) (fun c a w h=>aT c a _ _ w (by rw[aM]at h;exact h)) _ listed _ w (fun j bs a4 aq bh bm=>?_) I br ?_
   ·have bg:=(Array.getElem?_eq_some_iff.1 a4).1
    have ad:=List.all_eq_true.1 aF j (List.mem_range.2 bg);simp only[Bool.or_eq_true,decide_eq_true_eq,a4]at ad;rcases ad with((ad|ad)|ad)|ad
    ·exact(aq ad).elim
    ·obtain⟨a7,a3,e,ag,ak,a5⟩:=Region.waitsFor_spec ad
     have:a7=bs:=Option.some.inj (a3.symm.trans a4);subst this;exact(bm e ag ak a5).elim
    ·obtain⟨a7,a3,e,ag,ak,a5⟩:=Region.waitsFor_spec ad
     have:a7=o:=Option.some.inj (a3.symm.trans ab);subst this;have a9:=ae e ag ak;rw[a5,getD_both bh]at a9;cases a9
    ·exact ad
   ·rw[aM,aN g i _ v aa]
    obtain⟨a1,aR⟩:=step (g:=g) (w:=w) (w':=w) (v:=v) U I T aa ai (Below.refl _ _) ar ah;exact ih _ _ _ (U.set I T) (by omega) aj a1 (Gq ay aa av)
  ·refine⟨fun h=>absurd h (J6 a6 bj U.size aP aD aO),fun i I=>?_⟩
   obtain⟨az,o,ab,ae⟩:=mem_ready.1 I;have T:i<ds.length:=by
    rcases Nat.lt_or_ge i ds.length with a0 | a0
    ·exact a0
    ·exfalso
     obtain⟨m,⟨aI,aJ⟩,bk⟩:=zeN (fun k=>k<ds.length∧listed.getD k true=false) aP ⟨aD,aO⟩;by_cases aK:m∈au
     ·apply aH
      have aL:m<ops.size:=by omega
      refine⟨m,aK,aI,mem_ready.2 ⟨aJ,_,Array.getElem?_eq_getElem aL,fun e ag ak=>?_⟩⟩;have bb:=y7 a6 (Array.getElem?_eq_getElem aL) (Uv ag ak);cases al:listed.getD e.on false with
      | true=>rfl
      | false=>exact(bk e.on bb ⟨by omega,getD_in (by rw[U.size];omega) al⟩).elim
     ·exact zak bo aV bq U _ m rfl aI aK aJ i a0 I
   have aa:ds[i]? = some ds[i]:=List.getElem?_eq_getElem T;have ai:Rs[i]? = some (Rs[i]'(by omega)):=List.getElem?_eq_getElem (by omega);refine yV ab (fun _ _ _ h=>by cases h.1) (fun _ _ h=>by cases h.1) (fun bt w' h=>?_) (aB.ok i o _ _ ab aa ai g w aj (a8 T ab ae) (Uw U az av));obtain⟨_,v,rfl,aw,ar⟩:=h;rw[aN g i _ v aa];obtain⟨a1,aR⟩:=step U I T aa ai aw ar ah;exact ih _ _ _ (U.set I T) (by omega) (aj.trans (aw.mono aj.size)) a1 (Gq ay aa av)
theorem XC {id:Nat}{os:List Oper}{L:List zg}{D:List zl}{w0:World}(T:List Nat) (J:Loc w0 w1 L D) (ao:P.follows .mixedOrders=true) (U:Region.drawF ops ds T=true) (ae:∀ c a (d:Nat) v w,Q (.panic c) (a.put (some d) v) w->Q (.panic c) a w)
  (ad:∀ i∈T,∀ o d R,ops[i]? = some o->ds[i]? = some d->Rs[i]? = some R->∀ g w,Below w1.heap.size w1 w->j7 Rs ds g w (zD o)->∃ v,Yields P ops o v ⟨(zv t ds g).toArray,df⟩∧R v w)
  (ah:∀ g w,Below w1.heap.size w1 w->j7 Rs ds g w (List.range Rs.length)->wpList P ops Q os ⟨(zv t ds g).toArray,df⟩ w):zw P ops ((Code.region id ops true).wp P Q ⟨t.toArray,df⟩ w1) t df ds w1 Rs os []:=
 fun ab ac aa=>by
  have an:Rs.length<=ds.length:=aa.short;have ai:ds.length<=Rs.length:=List.drop_eq_nil_iff.1 ac;have I:Rs.length=ds.length:=Nat.le_antisymm an ai;have aq:ds.length<=ops.size:=by
   simp only[Region.drawF,Bool.and_eq_true,decide_eq_true_eq]at U;omega
  refine wp_region_any ao ?_;have h:=zbI (Q:=Q) U I aa ae ad (fun g w ag af=>by
   rw[<- I,ab];exact ah g w ag (Jp fun j ak=>af j (by rw[<- I];exact List.mem_range.1 ak))) ds.length (Array.replicate ops.size false) (fun d=>t.getD d undef) w1.drew
   ⟨by simp,fun j ar _ p=>(by rw[getD_replicate_false]at p;cases p),fun k _ al=>(by simp[al])⟩
   (by
    have:((List.range ds.length).filter fun i=>!(Array.replicate ops.size false).getD i true)=List.range ds.length:=by
     rw[List.filter_eq_self];intro i aj;have:i<ops.size:=by have:=List.mem_range.1 aj;omega
     simp[this]
    rw[this];simp)
   ((Below.refl _ _).drew) (fun j _ p=>(by rw[getD_replicate_false]at p;cases p)) (fun _ _ _ _=>rfl)
  rw[yb,show ds.length+(ops.size - ds.length)=ops.size by omega]at h;exact h
def zbJ (P:Program) (ops:Array Oper) (t:List Value) (df:List Deferred) (ds:List Nat) (w1:World) (Rs:List (Value->World->Prop)) (k:Nat):Prop:=
 ∀ o d R,ops[k]? = some o->ds[k]? = some d->Rs[k]? = some R->∀ g w,Below w1.heap.size w1 w->j7 Rs ds g w (zD o)->∃ v,Yields P ops o v ⟨(zv t ds g).toArray,df⟩∧R v w
theorem yj {k:Nat}{o:Oper}{R:Value->World->Prop}(p:ops.toList[k]? = some o) (U:Rs[k]? = some R)
  (h:∀ g w,Below w1.heap.size w1 w->j7 Rs ds g w (zD o)->∃ v,Yields P ops o v ⟨(zv t ds g).toArray,df⟩∧R v w):zbJ P ops t df ds w1 Rs k:=fun ac d I ab _ aa=>by
 have T:ac=o:=by rw[Array.getElem?_toList]at p;exact Option.some.inj (ab.symm.trans p)
 have e2:I=R:=Option.some.inj (aa.symm.trans U);subst T;subst e2;exact h
theorem zdE {id:Nat}{os:List Oper}{L:List zg}{D:List zl}{w0:World}(k:Nat) (J:Loc w0 w1 L D) (ab:P.follows .mixedOrders=true) (p:Region.drawF ops ds [k]=true) (T:∀ c a (d:Nat) v w,Q (.panic c) (a.put (some d) v) w->Q (.panic c) a w)
  (I:zbJ P ops t df ds w1 Rs k)
  (U:∀ g w,Below w1.heap.size w1 w->j7 Rs ds g w (List.range Rs.length)->wpList P ops Q os ⟨(zv t ds g).toArray,df⟩ w):zw P ops ((Code.region id ops true).wp P Q ⟨t.toArray,df⟩ w1) t df ds w1 Rs os []:=
 XC [k] J ab p T (fun i aa=>by rw[List.mem_singleton.1 aa];exact I) U
end
section
variable {P : Program} {ops : Array Oper} {Q : Exit -> Act -> World -> Prop} {t : List Value} {df : List Deferred} {ds : List Nat} {w1 : World} {Rs : List (Value -> World -> Prop)}
theorem U3 {j d:Nat}{x:Value}{g:Nat->Value}{w:World}(h:RAt Rs ds j g w) (p:Rs[j]? = some (fun v _=>v=x)) (I:ds[j]? = some d):g d=x:=by
 unfold RAt at h;rw[p,I]at h;exact h
theorem zcY {j d:Nat}{R:Value->World->Prop}{g:Nat->Value}{w:World}(h:RAt Rs ds j g w) (p:Rs[j]? = some R) (I:ds[j]? = some d):R (g d) w:=by
 unfold RAt at h;rw[p,I]at h;exact h
theorem Qs {Q T : Exit->Act->World->Prop}{o:Oper}{rest:List Oper}{a:Act}{w:World}(ab:∀ c a w,¬ Q (.panic c) a w) (aa:∀ a w,¬ Q .outgrown a w)
  (U:∀ a w,Q .normal a w->wpList P ops T rest a w) (h:wpList P ops Q [o] a w):wpList P ops T (o::rest) a w:=by
 unfold wpList at h ⊢;split
 ·rename_i I
  rw[if_pos I]at h;rcases h with h|⟨_,ac,ad,p⟩
  ·exact .inl (Oper.wp_mono2 (fun a w p=>U a w p) ab aa h)
  ·exact(aa _ _ p).elim
 ·rename_i I
  rw[if_neg I]at h;exact U _ _ h
def Region.lineB (ops:Array Oper) (ds:List Nat):Bool:=Region.orderB ops&&Region.dstB ops ds&&decide ds.Nodup&&decide (ds.length<=ops.size)
theorem zeO (ae:Region.lineB ops ds=true) (a9:Rs.length=ds.length) (af:Jo P ops t df ds w1 Rs)
  (ay:∀ g w,Below w1.heap.size w1 w->(∀ j,j<ds.length->RAt Rs ds j g w)->wpList P ops Q (ops.toList.drop ds.length) ⟨(zv t ds g).toArray,df⟩ w):
  ∀ (c i:Nat) (g:Nat->Value) (w:World),i+c=ds.length->Below w1.heap.size w1 w->(∀ j,j<i->RAt Rs ds j g w)->(∀ j d,i<=j->ds[j]? = some d->g d=t.getD d undef)->
   wpList P ops Q (ops.toList.drop i) ⟨(zv t ds g).toArray,df⟩ w:=by
 simp only[Region.lineB,Bool.and_eq_true,decide_eq_true_eq]at ae;obtain⟨⟨⟨au,a7⟩,ao⟩,a8⟩:=ae;intro c;induction c with
 | zero=>intro i g w az T U _;rw[show i=ds.length by omega];exact ay g w T (fun j I=>U j (by omega))
 | succ c ih=>
  intro i g w az T U ah;have aa:i<ds.length:=by omega
  have al:i<ops.size:=by omega
  have ar:ops[i]? = some ops[i]:=Array.getElem?_eq_getElem al;have aj:ds[i]? = some ds[i]:=List.getElem?_eq_getElem aa;have ag:Rs[i]? = some (Rs[i]'(by omega)):=List.getElem?_eq_getElem (by omega);have aw:ops.toList.drop i=ops[i]::ops.toList.drop (i+1):=by
   rw[List.drop_eq_getElem_cons (by simpa using al)];simp
  rw[aw];refine Qs (fun _ _ _ h=>by cases h.1) (fun _ _ h=>by cases h.1) (fun a6 a5 h=>?_)
   (af.ok i _ _ _ ar aj ag g w T (fun j I=>U j (y7 au ar I)) (fun j aA d a2 a0 p=>ah j d (Nat.le_of_lt (y7 au a2 a0)) p))
  obtain⟨_,v,rfl,ai,a4⟩:=h;have a3:(⟨(zv t ds g).toArray,df⟩:Act).put (some ds[i]) v=⟨(zv t ds (upd g ds[i] v)).toArray,df⟩:=by
   simp only[Act.put,List.setIfInBounds_toArray];rw[JN (List.getElem_mem aa)]
  rw[a3];have aq:∀ j d,j≠i->ds[j]? = some d->d≠ds[i]:=fun j d I p ax=>by
   subst ax;obtain⟨ad,ac⟩:=List.getElem?_eq_some_iff.1 p;rcases Nat.lt_or_gt_of_ne I with h|h
   ·exact List.pairwise_iff_getElem.1 ao j i ad aa h ac
   ·exact List.pairwise_iff_getElem.1 ao i j aa ad h ac.symm
  refine ih (i+1) _ a5 (by omega) (T.trans (ai.mono T.size)) (fun j I=>?_) (fun j d I p=>?_)
  ·by_cases an:j=i
   ·subst an
    unfold RAt;simp only[aj,ag,upd,if_true];exact a4
   ·have ab:=U j (by omega)
    have a1:j<ds.length:=by omega
    have ak:ds[j]? = some ds[j]:=List.getElem?_eq_getElem a1;have av:Rs[j]? = some (Rs[j]'(by omega)):=List.getElem?_eq_getElem (by omega);unfold RAt at ab ⊢;simp only[ak,av]at ab ⊢;rw[show upd g ds[i] v ds[j]=g ds[j] from if_neg (aq j _ an ak)];exact af.stable _ (List.getElem_mem _) _ _ _ ai ab
  ·rw[show upd g ds[i] v d=g d from if_neg (aq j d (by omega) p)]
   exact ah j d (by omega) p
theorem zx {id:Nat}{l:List Oper}(ds:List Nat) (h:zw P l.toArray ((Code.region id l.toArray false).wp P Q ⟨t.toArray,df⟩ w1) t df ds w1 [] l ds):(Code.region id l.toArray false).wp P Q ⟨t.toArray,df⟩ w1:=h rfl rfl Jo.nil
theorem zcZ {id:Nat}{os:List Oper}{L:List zg}{D:List zl}{w0:World}(J:Loc w0 w1 L D) (ab:Region.lineB ops ds=true)
  (ae:∀ g w,Below w1.heap.size w1 w->j7 Rs ds g w (List.range Rs.length)->wpList P ops Q os ⟨(zv t ds g).toArray,df⟩ w):zw P ops ((Code.region id ops false).wp P Q ⟨t.toArray,df⟩ w1) t df ds w1 Rs os []:=
 fun U aa T=>by
  have ag:Rs.length<=ds.length:=T.short;have af:ds.length<=Rs.length:=List.drop_eq_nil_iff.1 aa;have I:Rs.length=ds.length:=Nat.le_antisymm ag af;refine wp_region_list ?_;have h:=zeO (Q:=Q) ab I T (fun g w ad ac=>by
   rw[<- I,U];exact ae g w ad (Jp fun j p=>ac j (by rw[<- I];exact List.mem_range.1 p))) ds.length 0 (fun d=>t.getD d undef) w1 (by omega) (Below.refl _ _) (fun j p=>absurd p (by omega)) (fun j d _ _=>rfl)
  rw[yb,List.drop_zero]at h;exact h
def cnd (c:Bool) (x:Value):Value:=bif c then x else undef
theorem YG (e:Bool):((e==true)=true)=(e=true):=by cases e<;>simp
theorem YH (e:Bool):((e==false)=true)=(e=false):=by cases e<;>simp
theorem Kd {x:Value}:cnd true x=x:=rfl
theorem K2 {j d:Nat}{p:Array Value}{b:Bool}(I:(ops[j]?).bind (·.dst)=some d) (T:p[d]? = some (.bool b)):yielded ops p j=some b:=by
 simp[yielded,I,T]
theorem zdF {j d:Nat}{p:Array Value}(I:(ops[j]?).bind (·.dst)=some d) (T:p[d]? = some undef):yielded ops p j=none:=by
 simp[yielded,I,T,undef]
theorem Gr {g:Nat->Value}{d:Nat}(p:d∈ds) (I:d<t.length):((zv t ds g).toArray)[d]? = some (g d):=by
 simp[JM,p,I]
theorem Ux {o:Oper}{a:Act}{w:World}{d:Nat}(T:Region.wanted o (yielded ops a.tmps)=false) (I:o.dst=some d) {R:Value->World->Prop}(p:R undef w):wpList P ops (z7 a d w R) [o] a w:=by
 unfold wpList;rw[if_neg (by simp[T])];exact⟨rfl,undef,by rw[I],Below.refl _ _,p⟩
theorem Vh {op:Op}{ty:TypeId}{pos:String}{after:Array Edge}{p:Option (Nat × Bool)}{a:Act}{w:World}{d:Nat}{R:Value->World->Prop}
  (T:Region.wanted ⟨some d,op,ty,pos,after,p⟩ (yielded ops a.tmps)=true) (h:wpList P ops (z7 a d w R) [⟨some d,op,ty,pos,after,none⟩] a w):wpList P ops (z7 a d w R) [⟨some d,op,ty,pos,after,p⟩] a w:=by
 unfold wpList at h ⊢;rw[if_pos T];rw[if_pos (show Region.wanted ⟨some d,op,ty,pos,after,none⟩ (yielded ops a.tmps)=true from rfl)]at h;rcases h with h|⟨h,I⟩
 ·exact .inl h
 ·exact .inr ⟨h,I⟩
theorem YI {C:Prop}{e:Bool}{x:Value}{j dj:Nat}{b:Bool}{op:Op}{ty:TypeId}{pos:String}{after:Array Edge}{os:List Oper}{d:Nat}{dr:List Nat}
  (ab:Rs[j]? = some (fun v _=>v=.bool e)) (T:ds[j]? = some dj) (ad:(ops[j]?).bind (·.dst)=some dj) (Z:j∈zD ⟨some d,op,ty,pos,after,some (j,b)⟩) (ac:dj<t.length)
  (hk:(e==b)=true->∀ g w,Below w1.heap.size w1 w->j7 Rs ds g w (zD ⟨some d,op,ty,pos,after,some (j,b)⟩)->
   wpList P ops (z7 ⟨(zv t ds g).toArray,df⟩ d w (fun v _=>v=x)) [⟨some d,op,ty,pos,after,none⟩] ⟨(zv t ds g).toArray,df⟩ w)
  (h:zw P ops C t df ds w1 (Rs++[fun v _=>v=cnd (e==b) x]) os dr):zw P ops C t df ds w1 Rs (⟨some d,op,ty,pos,after,some (j,b)⟩::os) (d::dr):=by
 refine Qr (fun g w aa I=>?_) h;have ae:g dj=.bool e:=U3 (Qq I Z) ab T;have U:yielded ops (⟨(zv t ds g).toArray,df⟩:Act).tmps j=some e:=K2 ad (by rw[Gr (List.mem_of_getElem? T) ac,ae]);cases p:(e==b) with
 | true=>
  refine Vh (by simp[Region.wanted,U];simpa using p) ?_;simpa [cnd] using hk p g w aa I
 | false=>exact Ux (by simp[Region.wanted,U];simpa using p) rfl (by simp[cnd])
theorem Uy {C:Prop}{c e:Bool}{x:Value}{j dj:Nat}{b:Bool}{op:Op}{ty:TypeId}{pos:String}{after:Array Edge}{os:List Oper}{d:Nat}{dr:List Nat}
  (ae:Rs[j]? = some (fun v _=>v=cnd c (.bool e))) (ac:ds[j]? = some dj) (aa:(ops[j]?).bind (·.dst)=some dj) (Z:j∈zD ⟨some d,op,ty,pos,after,some (j,b)⟩) (af:dj<t.length)
  (hk:(c&&(e==b))=true->∀ g w,Below w1.heap.size w1 w->j7 Rs ds g w (zD ⟨some d,op,ty,pos,after,some (j,b)⟩)->
   wpList P ops (z7 ⟨(zv t ds g).toArray,df⟩ d w (fun v _=>v=x)) [⟨some d,op,ty,pos,after,none⟩] ⟨(zv t ds g).toArray,df⟩ w)
  (h:zw P ops C t df ds w1 (Rs++[fun v _=>v=cnd (c&&(e==b)) x]) os dr):zw P ops C t df ds w1 Rs (⟨some d,op,ty,pos,after,some (j,b)⟩::os) (d::dr):=by
 refine Qr (fun g w ad ab=>?_) h;have ag:g dj=cnd c (.bool e):=U3 (Qq ab Z) ae ac;have I:=Gr (t:=t) (g:=g) (List.mem_of_getElem? ac) af;rw[ag]at I;cases T:(c&&(e==b)) with
 | true=>
  have U:=T;simp only[Bool.and_eq_true]at U;have p:yielded ops (⟨(zv t ds g).toArray,df⟩:Act).tmps j=some e:=K2 aa (by rw[I,U.1];rfl);refine Vh (by simp[Region.wanted,p];simpa using U.2) ?_;simpa [cnd] using hk T g w ad ab
 | false=>
  refine Ux ?_ rfl (by simp[cnd]);cases c with
  | false=>
   have p:yielded ops (⟨(zv t ds g).toArray,df⟩:Act).tmps j=none:=zdF aa (by rw[I];rfl);simp[Region.wanted,p]
  | true=>
   have p:yielded ops (⟨(zv t ds g).toArray,df⟩:Act).tmps j=some e:=K2 aa (by rw[I];rfl);simp[Region.wanted,p];simpa using T
theorem zal {a:Act}{w:World}{rest:List Oper}{d:Option Tmp}{ty:TypeId}{pos:String}{after:Array Edge}{xc xa:Operand}{e e2:Bool}(p:a.eval xc=.bool e) (I:a.eval xa=cnd (e==true) (.bool e2))
  (h:wpList P ops Q rest (a.put d (.bool (e&&e2))) w):wpList P ops Q (⟨d,.pick xc xa (.const (.bool false)),ty,pos,after,none⟩::rest) a w:=
 qp (o:=⟨d,.pick xc xa (.const (.bool false)),ty,pos,after,none⟩) (w':=w) rfl (by
  have T:∀ v,a.eval (.const v)=v:=fun _=>rfl
  cases e<;>simp[execOp,asBool,p,I,T,cnd]) h
theorem zbK {a:Act}{w:World}{rest:List Oper}{d:Option Tmp}{ty:TypeId}{pos:String}{after:Array Edge}{xc xa:Operand}{e e2:Bool}(p:a.eval xc=.bool e) (I:a.eval xa=cnd (e==false) (.bool e2))
  (h:wpList P ops Q rest (a.put d (.bool (e || e2))) w):wpList P ops Q (⟨d,.pick xc (.const (.bool true)) xa,ty,pos,after,none⟩::rest) a w:=
 qp (o:=⟨d,.pick xc (.const (.bool true)) xa,ty,pos,after,none⟩) (w':=w) rfl (by
  have T:∀ v,a.eval (.const v)=v:=fun _=>rfl
  cases e<;>simp[execOp,asBool,p,I,T,cnd]) h
end
section
variable {P : Program} {ops : Array Oper} {Q : Exit -> Act -> World -> Prop}
def q6 (K:Act->World->Prop):Exit->Act->World->Prop:=fun e a w=>e=.normal∧K a w
theorem Vi {id:Nat}{a:Act}{w:World}{Inv:Array Bool->Act->World->Prop}(ax:P.follows .mixedOrders=true) (ay:Region.orderB ops=true) (ag:Inv (Array.replicate ops.size false) a w.drew)
  (az:∀ i o,ops[i]? = some o->∀ l a w,HeadInv .any ops ops.size l->Inv l a w->l.getD i true=false->(∀ j∈zD o,l.getD j false=true)->wpList P ops (q6 (Inv (l.setIfInBounds i true))) [o] a w)
  (aq:∀ l a w,Inv l a w->(∀ i,i<ops.size->l.getD i false=true)->Q .normal a w):(Code.region id ops true).wp P Q a w:=by
 refine wp_region_any ax ?_;have core:∀ (c:Nat) (l:Array Bool) (a:Act) (w:World),HeadInv .any ops ops.size l->((List.range ops.size).filter fun i=>!l.getD i true).length=c->Inv l a w->wpAny P .any ops Q c l a w:=by
  intro c;induction c with
  | zero=>
   intro l a w U ad ah;have ac:∀ i,i<ops.size->l.getD i false=true:=by
    intro i I;have ag:=List.length_eq_zero_iff.1 ad;have T:i ∉ ((List.range ops.size).filter fun i=>!l.getD i true):=by rw[ag];simp
    have ab:l.getD i true=true:=by
     cases ar:l.getD i true with
     | true=>rfl
     | false=>exact(T (List.mem_filter.2 ⟨List.mem_range.2 I,by simp[ar]⟩)).elim
    have av:i<l.size:=by rw[U.size];omega
    simp[av]at ab ⊢;exact ab
   refine⟨List.eq_nil_iff_forall_not_mem.2 fun i I=>?_,aq l a w ah ac⟩;obtain⟨af,o,aa,_⟩:=mem_ready.1 I;have ae : i<ops.size:=(Array.getElem?_eq_some_iff.1 aa).1;have T:=ac i ae;rw[getD_both af]at T;cases T
  | succ c ih=>
   intro l a w U ad ah;obtain⟨a1,au,a0⟩:∃ i,i<ops.size∧l.getD i true=false:=by
    cases aj:(List.range ops.size).filter fun i=>!l.getD i true with
    | nil=>rw[aj]at ad;cases ad
    | cons i r=>
     have:i∈(List.range ops.size).filter fun i=>!l.getD i true:=by rw[aj];exact List.mem_cons_self
     obtain⟨T,ab⟩:=List.mem_filter.1 this;exact⟨i,List.mem_range.1 T,by simpa using ab⟩
   refine⟨fun h=>absurd h (J6 ay (Nat.le_refl _) U.size a1 au a0),fun i I=>?_⟩;obtain⟨af,o,aa,ac⟩:=mem_ready.1 I;have ae : i<ops.size:=(Array.getElem?_eq_some_iff.1 aa).1;have an:∀ j∈zD o,l.getD j false=true:=fun j aw=>by
    obtain⟨e,ao,al,rfl⟩:=QZ aw;exact ac e ao al
   refine yV aa (fun _ _ _ h=>by cases h.1) (fun _ _ h=>by cases h.1) (fun a2 a5 h=>?_) (az i o aa l a w U ah af an);have a3:=QY (p:=fun k=>!l.getD k true) (p':=fun k=>!(l.setIfInBounds i true).getD k true) (i:=i) (List.range ops.size) List.nodup_range (List.mem_range.2 ae) (by simp[af])
    (by
     have:i<l.size:=by rw[U.size];omega
     simp[this])
    (fun k ai=>by rw[getD_set_ne true (Ne.symm ai)])
   exact ih _ _ _ (U.set I ae) (by omega) h.2
 have h:=core ops.size (Array.replicate ops.size false) a w.drew ⟨by simp,fun j a4 _ ak=>(by rw[getD_replicate_false]at ak;cases ak),fun k _ ai=>(by simp[ai])⟩
  (by
   have:((List.range ops.size).filter fun i=>!(Array.replicate ops.size false).getD i true)=List.range ops.size:=by
    rw[List.filter_eq_self];intro i I;have:i<ops.size:=List.mem_range.1 I;simp[this]
   rw[this];simp) ag
 exact h
abbrev Yld:=Nat × Nat × Value
structure YJ where
 ia:Nat
 st:Nat
 d:Nat
 T:TypeId
 z:List Value
 c:List Value
def lst (l:Array Bool) (i:Nat):Bool:=l.getD i false
structure zeP (t:List Value) (df:List Deferred) (ds:List Nat) (xs:List Yld) (vs:List YJ) (w1:World) (l:Array Bool) (g:Nat->Value) (w:World):Prop where
 below:Below w1.heap.size w1 w
 vals:∀ e∈xs,lst l e.1=true->g e.2.1=e.2.2
 vars:∀ v∈vs,lst l v.ia=true->∃ b,w1.heap.size<=b∧g v.d=.pointer (some ⟨b,0,none⟩)∧w.heap[b]? = some (.cells (bif lst l v.st then v.c else v.z).toArray v.T (0,0))
 apart:∀ v∈vs,∀ u∈vs,v.ia≠u.ia->lst l v.ia=true->lst l u.ia=true->g v.d≠g u.d
def zeQ (t:List Value) (df:List Deferred) (ds:List Nat) (xs:List Yld) (vs:List YJ) (w1:World) (l:Array Bool) (a:Act) (w:World):Prop:=
 ∃ g,a=⟨(zv t ds g).toArray,df⟩∧zeP t df ds xs vs w1 l g w
def Jq (ds:List Nat) (xs:List Yld) (vs:List YJ):Bool:=
 let p:=xs.map (fun e=>(e.1,e.2.1))++vs.map (fun v=>(v.ia,v.d))
 decide (p.map (·.1)).Nodup&&decide (p.map (·.2)).Nodup&&p.all (fun k=>ds.contains k.2)&&decide ((vs.map (·.st)).Nodup)&&vs.all (fun v=>!(p.map (·.1)).contains v.st)
theorem ze {l:Array Bool}{i k:Nat}(h:k≠i):lst (l.setIfInBounds i true) k=lst l k:=getD_set_ne false (Ne.symm h)
theorem qI {T U:Type}{f:T->U}:∀ {l:List T},(l.map f).Nodup->∀ x∈l,∀ y∈l,f x=f y->x=y
 | [],_,x,hx,_,_,_=>by cases hx
 | a::l,h,x,hx,y,hy,he=>by
  simp only[List.map_cons,List.nodup_cons]at h;rcases List.mem_cons.1 hx with p|p<;>rcases List.mem_cons.1 hy with I|I
  ·rw[p,I]
  ·exact(h.1 (List.mem_map.2 ⟨y,I,by rw[<- he,p]⟩)).elim
  ·exact(h.1 (List.mem_map.2 ⟨x,p,by rw[he,I]⟩)).elim
  ·exact qI h.2 x p y I he
section
variable {t : List Value} {df : List Deferred} {ds : List Nat} {xs : List Yld} {vs : List YJ} {w1 : World} {l : Array Bool} {g : Nat -> Value} {w : World} {i : Nat} {o : Oper}
theorem Ke {d:Nat}{v:Value}(p:d∈ds):(⟨(zv t ds g).toArray,df⟩:Act).put (some d) v=⟨(zv t ds (upd g d v)).toArray,df⟩:=by
 simp only[Act.put,List.setIfInBounds_toArray];rw[JN p]
theorem jt {d:Nat}{x:Value}(hk:Jq ds xs vs=true) (T:(i,d,x)∈xs) (aa:zeP t df ds xs vs w1 l g w) (a1:l.getD i true=false)
  (h:wpList P ops (z7 ⟨(zv t ds g).toArray,df⟩ d w (fun v _=>v=x)) [o] ⟨(zv t ds g).toArray,df⟩ w):
  wpList P ops (q6 (zeQ t df ds xs vs w1 (l.setIfInBounds i true))) [o] ⟨(zv t ds g).toArray,df⟩ w:=by
 simp only[Jq,Bool.and_eq_true,decide_eq_true_eq]at hk;obtain⟨⟨⟨⟨ab,ai⟩,ay⟩,a2⟩,az⟩:=hk;have av:d∈ds:=by
  have:=List.all_eq_true.1 ay (i,d) (List.mem_append.2 (.inl (List.mem_map.2 ⟨_,T,rfl⟩)));simpa using this
 refine Qs (rest:=[]) (fun _ _ _ h=>by cases h.1) (fun _ _ h=>by cases h.1) (fun aq a0 U=>?_) h;show q6 _ .normal aq a0
 obtain⟨_,v,rfl,ak,rfl⟩:=U;refine⟨rfl,upd g d v,Ke av,aa.below.trans (ak.mono aa.below.size),fun e U I=>?_,fun u p I=>?_,fun u p ao an ah I al=>?_⟩
 ·by_cases ac:e.1=i
  ·have:(e.1,e.2.1)=(i,d):=qI ab _ (List.mem_append.2 (.inl (List.mem_map.2 ⟨e,U,rfl⟩))) _ (List.mem_append.2 (.inl (List.mem_map.2 ⟨_,T,rfl⟩))) ac
   have ax:(xs.map (·.1)).Nodup:=by
    have af:(xs.map (·.1)++vs.map (·.ia)).Nodup:=by rw[List.map_append,List.map_map,List.map_map]at ab;exact ab
    exact(List.nodup_append.1 af).1
   have aw:e=(i,d,v):=qI ax e U _ T ac;subst aw;simp[upd]
  ·rw[ze ac]at I
   have ah:e.2.1≠d:=fun au=>by
    have:(e.1,e.2.1)=(i,d):=qI ai _ (List.mem_append.2 (.inl (List.mem_map.2 ⟨e,U,rfl⟩))) _ (List.mem_append.2 (.inl (List.mem_map.2 ⟨_,T,rfl⟩))) au;exact ac (congrArg Prod.fst this)
   simp only[upd,if_neg ah];exact aa.vals e U I
 all_goals
  have key:∀ u∈vs,u.ia≠i∧u.st≠i∧u.d≠d:=fun u p=>by
   refine⟨fun h=>?_,fun h=>?_,fun h=>?_⟩
   ·have ag:(xs.map (·.1)++vs.map (·.ia)).Nodup:=by rw[List.map_append,List.map_map,List.map_map]at ab;exact ab
    exact(List.nodup_append.1 ag).2.2 i (List.mem_map.2 ⟨_,T,rfl⟩) u.ia (List.mem_map.2 ⟨u,p,rfl⟩) h.symm
   ·have:=List.all_eq_true.1 az u p
    simp only[Bool.not_eq_true',List.contains_eq_mem,decide_eq_false_iff_not]at this;exact this (List.mem_map.2 ⟨(i,d),List.mem_append.2 (.inl (List.mem_map.2 ⟨_,T,rfl⟩)),h.symm⟩)
   ·have ag:(xs.map (·.2.1)++vs.map (·.d)).Nodup:=by rw[List.map_append,List.map_map,List.map_map]at ai;exact ai
    exact(List.nodup_append.1 ag).2.2 d (List.mem_map.2 ⟨_,T,rfl⟩) u.d (List.mem_map.2 ⟨u,p,rfl⟩) h.symm
 ·obtain⟨ad,e2,ae⟩:=key u p
  rw[ze ad]at I;obtain⟨b,af,ar,aj⟩:=aa.vars u p I;refine⟨b,af,by simp only[upd,if_neg ae];exact ar,?_⟩;rw[ze e2,ak.block _ (zz aj)];exact aj
 ·obtain⟨ad,e2,ae⟩:=key u p
  obtain⟨f1,f2,f3⟩:=key ao an;rw[ze ad]at I;rw[ze f1]at al;simp only[upd,if_neg ae,if_neg f3];exact aa.apart u p ao an ah I al
theorem q1 {l:Array Bool}(h:i<l.size):lst (l.setIfInBounds i true) i=true:=by simp[lst,h]
theorem K3 (hk:Jq ds xs vs=true) {u v:YJ}(p:u∈vs) (hv:v∈vs) (h:u.ia=v.ia∨u.st=v.st∨u.d=v.d):u=v:=by
 simp only[Jq,Bool.and_eq_true,decide_eq_true_eq]at hk;obtain⟨⟨⟨⟨I,T⟩,_⟩,ab⟩,_⟩:=hk;have U:(xs.map (·.1)++vs.map (·.ia)).Nodup:=by rw[List.map_append,List.map_map,List.map_map]at I;exact I
 have aa:(xs.map (·.2.1)++vs.map (·.d)).Nodup:=by rw[List.map_append,List.map_map,List.map_map]at T;exact T
 rcases h with h|h|h
 ·exact qI (List.nodup_append.1 U).2.1 u p v hv h
 ·exact qI ab u p v hv h
 ·exact qI (List.nodup_append.1 aa).2.1 u p v hv h
theorem zhl (hk:Jq ds xs vs=true) {e:Yld}(p:e∈xs) {v:YJ}(hv:v∈vs):e.1≠v.ia∧e.2.1≠v.d∧e.1≠v.st:=by
 simp only[Jq,Bool.and_eq_true,decide_eq_true_eq]at hk;obtain⟨⟨⟨⟨I,T⟩,_⟩,_⟩,ab⟩:=hk;have U:(xs.map (·.1)++vs.map (·.ia)).Nodup:=by rw[List.map_append,List.map_map,List.map_map]at I;exact I
 have aa:(xs.map (·.2.1)++vs.map (·.d)).Nodup:=by rw[List.map_append,List.map_map,List.map_map]at T;exact T
 refine⟨(List.nodup_append.1 U).2.2 _ (List.mem_map.2 ⟨e,p,rfl⟩) _ (List.mem_map.2 ⟨v,hv,rfl⟩),(List.nodup_append.1 aa).2.2 _ (List.mem_map.2 ⟨e,p,rfl⟩) _ (List.mem_map.2 ⟨v,hv,rfl⟩),fun h=>?_⟩;have:=List.all_eq_true.1 ab v hv;simp only[Bool.not_eq_true',List.contains_eq_mem,decide_eq_false_iff_not]at this;exact this (List.mem_map.2 ⟨(e.1,e.2.1),List.mem_append.2 (.inl (List.mem_map.2 ⟨_,p,rfl⟩)),h⟩)
theorem zam (hk:Jq ds xs vs=true) {u v:YJ}(p:u∈vs) (hv:v∈vs):u.ia≠v.st:=by
 simp only[Jq,Bool.and_eq_true,decide_eq_true_eq]at hk;intro h;have:=List.all_eq_true.1 hk.2 v hv;simp only[Bool.not_eq_true',List.contains_eq_mem,decide_eq_false_iff_not]at this;exact this (List.mem_map.2 ⟨(u.ia,u.d),List.mem_append.2 (.inr (List.mem_map.2 ⟨_,p,rfl⟩)),h⟩)
theorem zhm (hk:Jq ds xs vs=true) {v:YJ}(hv:v∈vs):v.d∈ds:=by
 simp only[Jq,Bool.and_eq_true,decide_eq_true_eq]at hk;have:=List.all_eq_true.1 hk.1.1.2 (v.ia,v.d) (List.mem_append.2 (.inr (List.mem_map.2 ⟨_,hv,rfl⟩)));simpa using this
theorem zc0 {v:YJ}{ty:TypeId}{pos:String}{after:Array Edge}(hk:Jq ds xs vs=true) (hv:v∈vs) (hz:yx P v.T v.z) (ac:zeP t df ds xs vs w1 l g w) (ax:lst l v.st=false) (az:v.ia<l.size):
  wpList P ops (q6 (zeQ t df ds xs vs w1 (l.setIfInBounds v.ia true))) [⟨some v.d,.alloc v.T,ty,pos,after,none⟩] ⟨(zv t ds g).toArray,df⟩ w:=by
 refine ZY (Loc.start w) rfl hz ?_;intro b aq J;show q6 _ .normal _ _
 have an:=J.below;have aw:w.heap.size<=b:=J.ids (b,v.T,v.z) List.mem_cons_self;have au:aq.heap[b]? = some (.cells v.z.toArray v.T (0,0)):=J.cells (b,v.T,v.z) List.mem_cons_self;have ae:∀ u∈vs,u.ia≠v.ia->u.d≠v.d:=fun u p h av=>h (congrArg YJ.ia (K3 hk p hv (.inr (.inr av))))
 have old:∀ u∈vs,u.ia≠v.ia->lst (l.setIfInBounds v.ia true) u.ia=true->∃ U,w1.heap.size<=U∧U < w.heap.size∧g u.d=.pointer (some ⟨U,0,none⟩)∧aq.heap[U]? = some (.cells (bif lst l u.st then u.c else u.z).toArray u.T (0,0)):=by
  intro u p h I;rw[ze h]at I;obtain⟨U,ad,ah,aa⟩:=ac.vars u p I;exact⟨U,ad,zz aa,ah,by rw[an.block _ (zz aa)];exact aa⟩
 refine⟨rfl,upd g v.d _,Ke (zhm hk hv),ac.below.trans (an.mono ac.below.size),fun e ao I=>?_,fun u p I=>?_,fun u p ag af ak I aj=>?_⟩
 ·obtain⟨ar,e2,ay⟩:=zhl hk ao hv
  rw[ze ar]at I;simp only[upd,if_neg e2];exact ac.vals e ao I
 ·by_cases ab:u.ia=v.ia
  ·obtain rfl:=K3 hk p hv (.inl ab)
   refine⟨b,Nat.le_trans ac.below.size aw,by simp[upd],?_⟩;rw[ze (zam hk p p).symm,ax];exact au
  ·obtain⟨U,ad,ah,aa,ai⟩:=old u p ab I
   refine⟨U,ad,by simp only[upd,if_neg (ae u p ab)];exact aa,?_⟩;rw[ze (zam hk hv p).symm];exact ai
 ·by_cases ab:u.ia=v.ia
  ·obtain rfl:=K3 hk p hv (.inl ab)
   obtain⟨U,ad,ah,aa,ai⟩:=old ag af (fun h=>ak h.symm) aj;simp only[upd,if_pos,if_neg (ae ag af (fun h=>ak h.symm))];rw[aa];simp;try omega
  ·by_cases al : ag.ia=v.ia
   ·obtain rfl:=K3 hk af hv (.inl al)
    obtain⟨U,ad,ah,aa,ai⟩:=old u p ab I;simp only[upd,if_pos,if_neg (ae u p ab)];rw[aa];simp;try omega
   ·rw[ze ab]at I
    rw[ze al]at aj;simp only[upd,if_neg (ae u p ab),if_neg (ae ag af al)];exact ac.apart u p ag af ak I aj
theorem zc1 {v:YJ}{y:Operand}{ty:TypeId}{pos:String}{after:Array Edge}(hk:Jq ds xs vs=true) (hv:v∈vs) (ab:zeP t df ds xs vs w1 l g w) (a6:lst l v.st=false) (a5:v.st<l.size) (ao:lst l v.ia=true) (az:v.d<t.length)
  (hT:Y9 P v.T v.c.length) (ay:v.c.length=v.z.length) (au:v.c.all (·.oneCell')=true) (aA:((⟨(zv t ds g).toArray,df⟩:Act).eval y).cells.toList=v.c):
  wpList P ops (q6 (zeQ t df ds xs vs w1 (l.setIfInBounds v.st true))) [⟨none,.store v.T (.tmp v.d) y,ty,pos,after,none⟩] ⟨(zv t ds g).toArray,df⟩ w:=by
 obtain⟨b,al,ah,an⟩:=ab.vars v hv ao;rw[a6]at an;have a9:(⟨(zv t ds g).toArray,df⟩:Act).eval (.tmp v.d)=.pointer (some ⟨b,0,none⟩):=by
  rw[<- ah];have:=Gr (t:=t) (g:=g) (zhm hk hv) az;simp[Act.eval,this]
 let S:zl:=fun af=>∀ u∈vs,u.ia≠v.ia->lst l u.ia=true->∃ U,g u.d=.pointer (some ⟨U,0,none⟩)∧w1.heap.size<=U∧af.heap[U]? = some (.cells (bif lst l u.st then u.c else u.z).toArray u.T (0,0))
 have J:Loc w1 w [(b,v.T,v.z)] [S]:=by
  refine⟨ab.below,by simp,fun e aa=>by rw[List.mem_singleton.1 aa];exact al,fun e aa=>by rw[List.mem_singleton.1 aa];exact an,fun aC aw=>?_⟩;rw[List.mem_singleton.1 aw];refine⟨fun k=>∃ u∈vs,u.ia≠v.ia∧lst l u.ia=true∧g u.d=.pointer (some ⟨k,0,none⟩)∧k<w.heap.size∧w1.heap.size<=k,fun k a2=>?_,fun af a8 u I aj p=>?_⟩
  ·obtain⟨u,I,aj,p,a0,a3,a1⟩:=a2
   refine⟨⟨a3,a1⟩,fun e aa ai=>?_⟩;rw[List.mem_singleton.1 aa]at ai;dsimp only at ai;subst ai;exact ab.apart u I v hv aj p ao (a0.trans ah.symm)
  ·obtain⟨U,ac,ad,ae⟩:=ab.vars u I p
   exact⟨U,ad,ac,by rw[a8 U ⟨u,I,aj,p,ad,zz ae,ac⟩];exact ae⟩
 refine zR (cs':=v.c) J rfl a9 .head aA hT au (by omega) (by simp[zj,ay]) ?_;intro af ag;show q6 _ .normal _ _
 have av:=ag.get (S:=S) List.mem_cons_self;have ax:af.heap[b]? = some (.cells v.c.toArray v.T (0,0)):=ag.cells (b,v.T,v.c) List.mem_cons_self;refine⟨rfl,g,rfl,ag.below,fun e aa p=>?_,fun u I p=>?_,fun u I aB ar a4 p aq=>?_⟩
 ·rw[ze (zhl hk aa hv).2.2]at p
  exact ab.vals e aa p
 ·rw[ze (zam hk I hv)]at p
  by_cases ak:u.ia=v.ia
  ·obtain rfl:=K3 hk I hv (.inl ak)
   exact⟨b,al,ah,by rw[q1 a5];exact ax⟩
  ·obtain⟨U,ac,ad,ae⟩:=av u I ak p
   have a7:u.st≠v.st:=fun h=>ak (congrArg YJ.ia (K3 hk I hv (.inr (.inl h))))
   exact⟨U,ad,ac,by rw[ze a7];exact ae⟩
 ·rw[ze (zam hk I hv)]at p
  rw[ze (zam hk ar hv)]at aq;exact ab.apart u I aB ar a4 p aq
end
section
def JP (K:Nat->Oper->Prop):Nat->List Oper->Prop
 | _,[]=>True
 | k,o::os=>K k o∧JP K (k+1) os
theorem Z0 {K:Nat->Oper->Prop}:∀ {os:List Oper}{k i:Nat}{o:Oper},JP K k os->os[i]? = some o->K (k+i) o
 | [],_,_,_,_,h=>by simp at h
 | x::os,k,0,o,hS,h=>by simp at h;subst h;exact hS.1
 | x::os,k,i+1,o,hS,h=>by
  have:=Z0 (k:=k+1) (i:=i) (o:=o) hS.2 (by simpa using h);rwa [show k+1+i=k+(i+1) by omega]at this
def zhn (P:Program) (ops:Array Oper) (t:List Value) (df:List Deferred) (ds:List Nat) (xs:List Yld) (vs:List YJ) (w1:World) (i:Nat) (o:Oper):Prop:=
 Jq ds xs vs=true->∀ l g w,ops.size=l.size->i<l.size->zeP t df ds xs vs w1 l g w->(∀ v∈vs,lst l v.st=true->lst l v.ia=true)->l.getD i true=false->(∀ j∈zD o,lst l j=true)->
  wpList P ops (q6 (zeQ t df ds xs vs w1 (l.setIfInBounds i true))) [o] ⟨(zv t ds g).toArray,df⟩ w
def zhA (ops:Array Oper) (vs:List YJ):Bool:=vs.all fun v=>match ops[v.st]? with|some o=>o.after.any fun e=>Region.binds .any e&&e.on==v.ia|none=>false
variable {t : List Value} {df : List Deferred} {xs : List Yld} {vs : List YJ} {w1 : World}
theorem zdG {id:Nat}{p:List Oper}(ds:List Nat) (au:P.follows .mixedOrders=true) (az:JP (zhn P p.toArray t df ds xs vs w1) 0 p) (hk:Jq ds xs vs=true) (aw:Region.orderB p.toArray=true) (ax:zhA p.toArray vs=true)
  (aq:∀ g w,Below w1.heap.size w1 w->(∀ e∈xs,e.1<p.length->g e.2.1=e.2.2)->(∀ v∈vs,v.ia<p.length->v.st<p.length->∃ b,w1.heap.size<=b∧g v.d=.pointer (some ⟨b,0,none⟩)∧w.heap[b]? = some (.cells v.c.toArray v.T (0,0)))->
   (∀ v∈vs,∀ u∈vs,v.ia≠u.ia->v.ia<p.length->u.ia<p.length->g v.d≠g u.d)->wpList P p.toArray Q [] ⟨(zv t ds g).toArray,df⟩ w):
  (Code.region id p.toArray true).wp P Q ⟨t.toArray,df⟩ w1:=by
 refine Vi (Inv:=zeQ t df ds xs vs w1) au aw ?_ ?_ ?_
 ·refine⟨fun d=>t.getD d undef,by rw[yb],(Below.refl _ _).drew,fun e _ ab=>?_,fun v _ ab=>?_,fun v _ u _ _ ab=>?_⟩<;>
   ·unfold lst at ab;rw[getD_replicate_false]at ab;cases ab
 ·intro i o U l a w ak ag a1 Z
  obtain⟨g,rfl,I⟩:=ag;have ar : i<p.toArray.size:=(Array.getElem?_eq_some_iff.1 U).1;have:=Z0 (K:=zhn P p.toArray t df ds xs vs w1) (k:=0) (i:=i) (o:=o) az (by simpa using U);rw[Nat.zero_add]at this;refine this hk l g w ak.size.symm (by rw[ak.size];exact ar) I (fun v ac ay=>?_) a1 Z;have ad:=List.all_eq_true.1 ax v ac;cases aj:p.toArray[v.st]? with
  | none=>rw[aj]at ad;cases ad
  | some o'=>
   rw[aj]at ad;obtain⟨e,ai,ah⟩:=Array.any_eq_true'.1 ad;simp only[Bool.and_eq_true,beq_iff_eq]at ah;have:=ak.closed v.st o' aj ay e ai ah.1;rw[ah.2]at this;exact this
 ·intro l a w ag ao
  obtain⟨g,rfl,I⟩:=ag;have aa : ∀ i,i<p.length->lst l i=true:=fun i U=>ao i (by simpa using U)
  refine aq g w I.below (fun e ai U=>I.vals e ai (aa _ U)) (fun v ac ae af=>?_) (fun v ac u a0 av ae af=>I.apart v ac u a0 av (aa _ ae) (aa _ af));obtain⟨b,an,e2,al⟩:=I.vars v ac (aa _ ae);rw[aa _ af]at al;exact⟨b,an,e2,al⟩
end
end
theorem yy {p:Prop}(h:p:=by(first|(with_reducible exact Uu)|(refine zhk rfl ?_;(simp only[Act.put,List.setIfInBounds_toArray,List.set_cons_zero,List.set_cons_succ,List.getElem?_toArray,List.getElem?_cons_succ,List.getElem?_cons_zero]);done)|(refine zhk rfl ?_;(simp only[Act.put,List.setIfInBounds_toArray,List.set_cons_zero,List.set_cons_succ,List.getElem?_toArray,List.getElem?_cons_succ,List.getElem?_cons_zero,Option.some.injEq,Value.bool.injEq]);assumption))):p:=h
theorem cDr {p:Prop}(h:p:=by simp only[List.drop_zero,List.drop_succ_cons,List.take_succ_cons,List.take_zero];rfl):p:=h
theorem zbL {p:Prop}(h:p:=by(first|exact zn.cell y2 rfl|exact zn.cell J0 rfl|exact zn.cell GU rfl|exact zn.cell zfV rfl|exact zn.cell GV rfl|exact zn.cell Jz rfl|exact zn.cell QP rfl|exact zn.cell zfZ rfl|exact zn.cell KM rfl|exact zn.cell zhU rfl|exact zn.cell jZ rfl|exact zn.cell zf0 rfl|exact zn.cell zf1 rfl|exact zn.cell zf2 rfl|exact zn.cell zf4 rfl|exact zn.cell zdi rfl|exact zn.agg jk cDr rfl|exact zn.agg GW cDr rfl|exact zn.agg zil cDr rfl|exact zn.agg zfX cDr rfl|exact zn.agg Ga cDr rfl|exact zn.agg jP cDr rfl|exact zn.agg zO cDr rfl|exact zn.agg zfW cDr rfl|exact zn.agg Zj cDr rfl|exact zn.agg zf3 cDr rfl|exact zn.agg zf5 cDr rfl)):p:=h
theorem cEv {p:Prop}(h:p:=by((first|(simp only[Act.eval,Act.put,zm.v,Value.cells,Array.getD_eq_getD_getElem?,List.getElem?_toArray,List.getElem?_cons_zero,List.getElem?_cons_succ,Option.getD_some,List.setIfInBounds_toArray,List.set_cons_zero,List.set_cons_succ];rfl)|rfl))):p:=h
theorem zi9 {p:Prop}(h:p:=by((simp only[List.map_toArray,List.map_cons,List.map_nil,List.flatten_cons,List.flatten_nil,List.append_nil,List.nil_append,List.cons_append,Act.eval,Act.put,zm.v,Value.cells,Array.getD_eq_getD_getElem?,List.getElem?_toArray,List.getElem?_cons_zero,List.getElem?_cons_succ,Option.getD_some,List.setIfInBounds_toArray,List.set_cons_zero,List.set_cons_succ];rfl))):p:=h
theorem ziw {p:Prop}(h:p:=by(first|exact y2.sz|exact J0.sz|exact GU.sz|exact zfV.sz|exact GV.sz|exact zfX.sz|exact Ga.sz|exact jP.sz|exact zfW.sz|exact jk.sz|exact GW.sz|exact zil.sz|exact Jz.sz|exact QP.sz|exact zfZ.sz|exact KM.sz|exact zhU.sz|exact zO.sz|exact jZ.sz|exact zf0.sz|exact zf1.sz|exact Zj.sz|exact zf2.sz|exact zf3.sz|exact zf4.sz|exact zf5.sz|exact zdi.sz)):p:=h
theorem zix {p:Prop}(h:p:=by(first|exact zin|exact zjj|exact ziS|exact ziq|exact ziQ|exact ziR|exact zii|exact zij|exact zcE|exact zim|exact zji|exact zjd)):p:=h
theorem zja {p:Prop}(h:p:=by(first|exact jC|exact UK|exact UL|exact V6|exact zhc|exact zio|exact zhb|exact V4|exact sSpans|exact Gb)):p:=h
theorem zeR {p:Prop}(h:p:=by(repeat (first|exact InL.head|apply InL.tail))<;>fail):p:=h
theorem Xk {p:Prop}(h:p:=by(first|exact zhz rfl|exact Ka J rfl (by repeat (first|exact InL.head|apply InL.tail)) zbL)):p:=h
section
variable {P : Program} {ops : Array Oper} {Q : Exit -> Act -> World -> Prop} {a : Act} {w0 w : World} {rest : List Oper} {L : List zg} {D : List zl}
 {d:Option Tmp} {ty:TypeId} {pos:String} {after:Array Edge} {g:Option (Nat × Bool)}
theorem lld {T:TypeId}{x:Operand}{b off:Nat}{I:TypeId}{p:List Value}{f:List Value->List zg}{v:Value}(J:Loc w0 w L D) (h:wpList P ops Q rest (a.put d v) w) (ac:Nat.beq T T=true:=by decide)
  (ab:a.eval x=.pointer (some ⟨b,off,none⟩):=by with_unfolding_all rfl) (U:InL b I p L f:=by with_unfolding_all exact zeR) (hv:zn P T p off v:=by with_unfolding_all exact zbL)
  (aa:Region.wanted ⟨d,.load T x,ty,pos,after,g⟩ (yielded ops a.tmps)=true:=by with_unfolding_all exact yy):wpList P ops Q (⟨d,.load T x,ty,pos,after,g⟩::rest) a w:=ya J aa ab U hv h
theorem ldD {T:TypeId}{x:Operand}{b off:Nat}{I:TypeId}{p:List Value}{v:Value}(J:Loc w0 w L D) (h:wpList P ops Q rest (a.put d v) w) (ac:Nat.beq T T=true:=by decide)
  (ab:a.eval x=.pointer (some ⟨b,off,none⟩):=by with_unfolding_all rfl) (U:y6 b I p∈D:=by with_unfolding_all ((repeat (first|exact List.mem_cons_self|apply List.mem_cons_of_mem))<;>fail)) (hv:zn P T p off v:=by with_unfolding_all exact zbL)
  (aa:Region.wanted ⟨d,.load T x,ty,pos,after,g⟩ (yielded ops a.tmps)=true:=by with_unfolding_all exact yy):wpList P ops Q (⟨d,.load T x,ty,pos,after,g⟩::rest) a w:=zdz J aa ab U hv h
theorem lbx {T:TypeId}{x:Operand}{p:List Value}(J:Loc w0 w L D) (h:∀ b I,Loc w0 I ((b,T,p)::L) D->wpList P ops Q rest (a.put d (.pointer (some ⟨b,0,none⟩))) I) (ab:Nat.beq T T=true:=by decide)
  (aa:(a.eval x).cells.toList=p:=by with_unfolding_all exact cEv) (U:Region.wanted ⟨d,.box T x,ty,pos,after,g⟩ (yielded ops a.tmps)=true:=by with_unfolding_all exact yy):wpList P ops Q (⟨d,.box T x,ty,pos,after,g⟩::rest) a w:=zgi J U aa h
theorem lal {T:TypeId}{p:List Value}(J:Loc w0 w L D) (h:∀ b I,Loc w0 I ((b,T,p)::L) D->wpList P ops Q rest (a.put d (.pointer (some ⟨b,0,none⟩))) I) (aa:Nat.beq T T=true:=by decide)
  (hz:yx P T p:=by with_unfolding_all exact zix) (U:Region.wanted ⟨d,.alloc T,ty,pos,after,g⟩ (yielded ops a.tmps)=true:=by with_unfolding_all exact yy):wpList P ops Q (⟨d,.alloc T,ty,pos,after,g⟩::rest) a w:=ZY J U hz h
theorem zc {T:TypeId}{x y:Operand}{b off:Nat}{U:TypeId}{p vs cs' : List Value}{f:List Value->List zg}(J:Loc w0 w L D) (h:∀ I,Loc w0 I (f cs') D->wpList P ops Q rest (a.put d undef) I) (ah:Nat.beq T T=true:=by decide)
  (af:a.eval x=.pointer (some ⟨b,off,none⟩):=by with_unfolding_all rfl) (ab:InL b U p L f:=by with_unfolding_all exact zeR) (ag:(a.eval y).cells.toList=vs:=by with_unfolding_all exact cEv) (hT:Y9 P T vs.length:=by with_unfolding_all exact ziw)
  (aa:vs.all (·.oneCell')=true:=by with_unfolding_all rfl) (ac:off+vs.length<=p.length:=by with_unfolding_all (simp<;>fail)) (ad:zj p off vs=cs':=by with_unfolding_all (simp only[zj,List.take_zero,List.take_succ_cons,List.drop_zero,List.drop_succ_cons,List.drop_nil,List.nil_append,List.cons_append,List.append_nil,List.length_cons,List.length_nil,Nat.zero_add,Nat.reduceAdd];rfl))
  (ae:Region.wanted ⟨d,.store T x y,ty,pos,after,g⟩ (yielded ops a.tmps)=true:=by with_unfolding_all exact yy):wpList P ops Q (⟨d,.store T x y,ty,pos,after,g⟩::rest) a w:=zR J ae af ab ag hT aa ac ad h
theorem lbs {T E:TypeId}{n:Nat}{parts:Array (Nat × Operand)}{z I:List Value}(J:Loc w0 w L D) (h:∀ b U,Loc w0 U ((b,E,I)::L) D->wpList P ops Q rest (a.put d (.slice (some ⟨b,0,none⟩) n n)) U) (ad:Nat.beq T T=true:=by decide)
  (hT:q5 P T E z:=by with_unfolding_all exact zja) (hn:n*z.length<=16777216:=by with_unfolding_all (simp<;>fail)) (aa:n*z.length≠0:=by with_unfolding_all (simp<;>fail)) (hi:parts.toList.map (·.1)=List.range' 0 n:=by with_unfolding_all rfl)
  (hf:(parts.toList.map (fun p=>(a.eval p.2).cells.toList)).flatten=I:=by with_unfolding_all exact zi9) (ab:(parts.toList.map (fun p=>(a.eval p.2).cells.size)).all (· == z.length)=true:=by with_unfolding_all rfl)
  (ac:Region.wanted ⟨d,.buildSlice T n parts,ty,pos,after,g⟩ (yielded ops a.tmps)=true:=by with_unfolding_all exact yy):wpList P ops Q (⟨d,.buildSlice T n parts,ty,pos,after,g⟩::rest) a w:=Vf J ac hT hn aa hi hf ab h
end
section
end
theorem YK {P:Program}{ops:Array Oper}{Q:Exit->Act->World->Prop}{p:Act}{w w' : World}{rest:List Oper}{d:Option Tmp}{k:BinOp}{T ty u:TypeId}{pos:String}{after:Array Edge}{x y:Operand}{r:Value}
  (I:(eqGuard k T x y (p.eval x) (p.eval y)).run P w=.ok () w) (hb:(binOp k T (p.eval x) (p.eval y)).run P w=.ok r w')
  (h:wpList P ops Q rest (p.put d r) w'):wpList P ops Q (⟨d,.binOp k T x y u,ty,pos,after,none⟩::rest) p w:=
 qp (o:=⟨d,.binOp k T x y u,ty,pos,after,none⟩) (w':=w') rfl (by
  simp only[execOp];rw[Sem.run_bind,Sem.run_bind,I];show Result.andThen (Sem.run P (binOp k T (p.eval x) (p.eval y)) w) _=_
  rw[hb];rfl) h
theorem yr {Rs:List (Value->World->Prop)}{ds:List Nat}{d:Nat}{R:Value->World->Prop}{g:Nat->Value}{w:World}{l:List Nat}(h:j7 Rs ds g w l) (j:Nat) (T:j∈l:=by decide) (p:Rs[j]? = some R:=by rfl) (I:ds[j]? = some d:=by rfl):R (g d) w:=zcY (Qq h T) p I
theorem fLa {p I:Type}(f:I->p->I) (b:I) (a:p) (l:List p):(a::l).foldl f b=l.foldl f (f b a):=rfl
theorem fLb {I p:Type}(f:p->I->p) (b:p):([]:List I).foldl f b=b:=rfl
theorem sTa {p:Type}(a b:p) (l:List p) (n:Nat):(a::l).set (n+1) b=a::l.set n b:=rfl
theorem sTb {p:Type}(a b:p) (l:List p):(a::l).set 0 b=b::l:=rfl
theorem apN {p:Type}(l:List p):[]++l=l:=rfl
theorem apC {p:Type}(a:p) (l m:List p):(a::l)++m=a::(l++m):=rfl
theorem cY {p:Prop}(h:p:=by exact⟨rfl,_,rfl,Below.refl _ _,rfl⟩):p:=h
inductive Kn (Rs:List (Value->World->Prop)) (ds:List Nat):List Nat->List (Nat × Value)->Prop where
 | nil:Kn Rs ds [] []
 | cons {j d:Nat} {x:Value} {js:List Nat} {xs:List (Nat × Value)} (h1:Rs[j]? = some (fun v _=>v=x)) (h2:ds[j]? = some d) (h:Kn Rs ds js xs):Kn Rs ds (j::js) ((d,x)::xs)
 | skip {j:Nat} {js:List Nat} {xs:List (Nat × Value)} (h:Kn Rs ds js xs):Kn Rs ds (j::js) xs
def y8 (g:Nat->Value):List (Nat × Value)->Prop
 | []=>True
 | p::l=>g p.1=p.2∧y8 g l
theorem Kn.all {Rs:List (Value->World->Prop)}{ds p:List Nat}{xs:List (Nat × Value)}{g:Nat->Value}{w:World}(h:Kn Rs ds p xs):j7 Rs ds g w p->y8 g xs:=by
 induction h with
 | nil=>exact fun _=>trivial
 | cons h1 h2 _ ih=>exact fun k=>⟨U3 k.1 h1 h2,ih k.2⟩
 | skip _ ih=>exact fun k=>ih k.2
theorem aG:(∀ g,y8 g []=True)∧(∀ g d x l,y8 g ((d,x)::l)=(g d=x∧y8 g l))∧∀ p:Prop,(p∧True)=p:=⟨fun _=>rfl,fun _ _ _ _=>rfl,and_true⟩
theorem fD:(∀ t g,zv t [] g=t)∧(∀ t d ds g,zv t (d::ds) g=zv (t.set d (g d)) ds g)∧(∀ (a b:Value) l n,(a::l).set (n+1) b=a::l.set n b)∧∀ (a b:Value) l,(a::l).set 0 b=b::l:=⟨fun _ _=>rfl,fun _ _ _ _=>rfl,fun _ _ _ _=>rfl,fun _ _ _=>rfl⟩
inductive KnE:List (Value->World->Prop)->List Nat->List (Nat × Value)->Prop where
 | nil:KnE [] [] []
 | cons {d:Nat} {x:Value} {Rs:List (Value->World->Prop)} {ds:List Nat} {xs:List (Nat × Value)} (h:KnE Rs ds xs):KnE ((fun v _=>v=x)::Rs) (d::ds) ((d,x)::xs)
 | skip {R:Value->World->Prop} {d:Nat} {Rs:List (Value->World->Prop)} {ds:List Nat} {xs:List (Nat × Value)} (h:KnE Rs ds xs):KnE (R::Rs) (d::ds) xs
def zan (Rs:List (Value->World->Prop)) (ds:List Nat) (g:Nat->Value) (w:World):Prop:=∀ (j:Nat) (R:Value->World->Prop) (d:Nat),Rs[j]? = some R->ds[j]? = some d->R (g d) w
theorem KnE.all {Rs:List (Value->World->Prop)}{ds:List Nat}{xs:List (Nat × Value)}{g:Nat->Value}{w:World}(h:KnE Rs ds xs):zan Rs ds g w->y8 g xs:=by
 induction h with
 | nil=>exact fun _=>trivial
 | cons _ ih=>exact fun k=>⟨k 0 _ _ rfl rfl,ih fun j R d p I=>k (j+1) R d p I⟩
 | skip _ ih=>exact fun k=>ih fun j R d p I=>k (j+1) R d p I
theorem qye {Rs:List (Value->World->Prop)}{ds:List Nat}{d:Nat}{R:Value->World->Prop}{g:Nat->Value}{w:World}(h:zan Rs ds g w) (j:Nat) (p:Rs[j]? = some R:=by rfl) (I:ds[j]? = some d:=by rfl):R (g d) w:=h j R d p I
theorem Qj {Rs:List (Value->World->Prop)}{ds:List Nat}{g:Nat->Value}{w:World}(h:j7 Rs ds g w (List.range Rs.length)):zan Rs ds g w:=fun j R d p I=>by
 have:=Qq h (j:=j) (List.mem_range.2 (by rcases Nat.lt_or_ge j Rs.length with h|h;exact h;rw[List.getElem?_eq_none h]at p;cases p));unfold RAt at this;rw[p,I]at this;exact this
theorem zjb {x:Value}:qC (fun v _=>v=x):=fun _ _ _ _ h=>h
theorem Loc.more1 {w0 w w1:World}{L:List zg}{D:List zl}{b:Nat}{I:List Value}{T:TypeId}(h:Loc w0 w L D) (hb:Below w.heap.size w w1) (p:w.heap.size<=b) (c:w1.heap[b]? = some (.cells I.toArray T (0,0))):Loc w0 w1 L (y6 b T I::D):=h.more hb (y6.fresh p c)
theorem Loc.more2 {w0 w w1:World}{L:List zg}{D:List zl}{b I:Nat}{aa ab:List Value}{T U:TypeId}(h:Loc w0 w L D) (hb:Below w.heap.size w w1) (p:w.heap.size<=b) (ae:w.heap.size<=I) (c:w1.heap[b]? = some (.cells aa.toArray T (0,0))) (ad:w1.heap[I]? = some (.cells ab.toArray U (0,0))):Loc w0 w1 L (y6 b T aa::y6 I U ab::D):=
 h.moreAll hb (Ds:=[_,_]) (by
  intro S ac;simp only[List.mem_cons,List.not_mem_nil,or_false]at ac;rcases ac with rfl|rfl
  ·exact y6.fresh p c
  ·exact y6.fresh ae ad)
theorem cKe {p:Prop}(h:p:=by repeat (first|exact KnE.nil|apply KnE.cons|apply KnE.skip)):p:=h
theorem cKn {p:Prop}(h:p:=by repeat (first|exact Kn.nil|(apply Kn.cons;exact rfl;exact rfl)|apply Kn.skip)):p:=h
theorem cHr {p:Prop}(h:p:=by(simp only[apN,apC];rfl)):p:=h
section
variable {P : Program} {ops : Array Oper} {Q : Exit -> Act -> World -> Prop} {a : Act} {w : World} {rest : List Oper} {d : Option Tmp} {ty : TypeId} {pos : String} {after : Array Edge} {xc xa : Operand} {e e2 : Bool}
theorem wpa (h:wpList P ops Q rest (a.put d (.bool (e&&e2))) w) (p:a.eval xc=.bool e:=by with_unfolding_all rfl) (I:a.eval xa=cnd (e==true) (.bool e2):=by with_unfolding_all rfl):wpList P ops Q (⟨d,.pick xc xa (.const (.bool false)),ty,pos,after,none⟩::rest) a w:=zal p I h
theorem wpo (h:wpList P ops Q rest (a.put d (.bool (e || e2))) w) (p:a.eval xc=.bool e:=by with_unfolding_all rfl) (I:a.eval xa=cnd (e==false) (.bool e2):=by with_unfolding_all rfl):wpList P ops Q (⟨d,.pick xc (.const (.bool true)) xa,ty,pos,after,none⟩::rest) a w:=zbK p I h
end
section
variable {P : Program} {ops : Array Oper} {C : Prop} {t : List Value} {df : List Deferred} {ds : List Nat} {w1 : World} {Rs Rs2 : List (Value -> World -> Prop)} {x : Value} {os : List Oper} {d : Nat} {dr : List Nat} {o : Oper} {xs : List (Nat × Value)} {j dj : Nat} {b e c : Bool} {op : Op} {ty : TypeId} {pos : String} {after : Array Edge}
theorem qdv (h:zw P ops C t df ds w1 Rs2 os dr) (T:Kn Rs ds (zD o) xs:=by exact cKn)
  (hk:∀ g w,Below w1.heap.size w1 w->y8 g xs->wpList P ops (z7 ⟨(zv t ds g).toArray,df⟩ d w (fun v _=>v=x)) [o] ⟨(zv t ds g).toArray,df⟩ w:=by intro g w p q;replace J:=J.grow p;simp only[fD];(try simp only[aG]at q);(try simp only[q]);(first|(with_reducible first|refine wpa ?_|refine wpo ?_)|go_wp2_with (with_reducible first|refine lld J ?_|refine ldD J ?_));exact cY)
  (I:Rs++[fun v _=>v=x]=Rs2:=by exact cHr):zw P ops C t df ds w1 Rs (o::os) (d::dr):=by
 subst I;exact Qr (fun g w p Z=>hk g w p (T.all Z)) h
theorem qdg (h:zw P ops C t df ds w1 Rs2 os dr)
  (aa:Rs[j]? = some (fun v _=>v=.bool e):=by rfl) (U:ds[j]? = some dj:=by rfl) (ac:(ops[j]?).bind (·.dst)=some dj:=by rfl) (Z:j∈zD (⟨some d,op,ty,pos,after,some (j,b)⟩:Oper):=by decide) (ab:dj<t.length:=by simp)
  (ae:Kn Rs ds (zD (⟨some d,op,ty,pos,after,some (j,b)⟩:Oper)) xs:=by exact cKn)
  (hk:(e==b)=true->∀ g w,Below w1.heap.size w1 w->y8 g xs->wpList P ops (z7 ⟨(zv t ds g).toArray,df⟩ d w (fun v _=>v=x)) [⟨some d,op,ty,pos,after,none⟩] ⟨(zv t ds g).toArray,df⟩ w:=by intro I;simp only[Bool.and_eq_true,YG,YH]at I;intro g w p q;replace J:=J.grow p;simp only[fD];(try simp only[aG,I,beq_self_eq_true,Bool.and_self,Bool.true_and,Bool.and_true,Kd]at q);(try simp only[q]);(first|(with_reducible first|refine wpa ?_|refine wpo ?_)|go_wp2_with (with_reducible first|refine lld J ?_|refine ldD J ?_));exact cY)
  (ad:Rs++[fun v _=>v=cnd (e==b) x]=Rs2:=by exact cHr):zw P ops C t df ds w1 Rs (⟨some d,op,ty,pos,after,some (j,b)⟩::os) (d::dr):=by
 subst ad;exact YI aa U ac Z ab (fun T g w p Z=>hk T g w p (ae.all Z)) h
theorem qdc (h:zw P ops C t df ds w1 Rs2 os dr)
  (aa:Rs[j]? = some (fun v _=>v=cnd c (.bool e)):=by rfl) (U:ds[j]? = some dj:=by rfl) (ac:(ops[j]?).bind (·.dst)=some dj:=by rfl) (Z:j∈zD (⟨some d,op,ty,pos,after,some (j,b)⟩:Oper):=by decide) (ab:dj<t.length:=by simp)
  (ae:Kn Rs ds (zD (⟨some d,op,ty,pos,after,some (j,b)⟩:Oper)) xs:=by exact cKn)
  (hk:(c&&(e==b))=true->∀ g w,Below w1.heap.size w1 w->y8 g xs->wpList P ops (z7 ⟨(zv t ds g).toArray,df⟩ d w (fun v _=>v=x)) [⟨some d,op,ty,pos,after,none⟩] ⟨(zv t ds g).toArray,df⟩ w:=by intro I;simp only[Bool.and_eq_true,YG,YH]at I;intro g w p q;replace J:=J.grow p;simp only[fD];(try simp only[aG,I,beq_self_eq_true,Bool.and_self,Bool.true_and,Bool.and_true,Kd]at q);(try simp only[q]);(first|(with_reducible first|refine wpa ?_|refine wpo ?_)|go_wp2_with (with_reducible first|refine lld J ?_|refine ldD J ?_));exact cY)
  (ad:Rs++[fun v _=>v=cnd (c&&(e==b)) x]=Rs2:=by exact cHr):zw P ops C t df ds w1 Rs (⟨some d,op,ty,pos,after,some (j,b)⟩::os) (d::dr):=by
 subst ad;exact Uy aa U ac Z ab (fun T g w p Z=>hk T g w p (ae.all Z)) h
theorem qda (h:zw P ops C t df ds w1 Rs2 os dr) (k:zw P ops C t df ds w1 Rs2 os dr->zw P ops C t df ds w1 Rs (o::os) (d::dr):=by intro h;first|exact qdg h|exact qdc h|exact qdv h):zw P ops C t df ds w1 Rs (o::os) (d::dr):=k h
theorem qdk {w0:World}{L:List zg}{D:List zl}{f:FuncId}{T:Array Value}(J:Loc w0 w1 L D) (K:∀ w,Below w1.heap.size w1 w->Loc w0 w L D->Calls P f T w fun e I=>e=.returned x∧Below w.heap.size w I) (h:zw P ops C t df ds w1 Rs2 os dr) (ab:Kn Rs ds (zD o) xs:=by exact cKn)
  (hk:∀ g w,Below w1.heap.size w1 w->y8 g xs->(Calls P f T w fun e I=>e=.returned x∧Below w.heap.size w I)->wpList P ops (z7 ⟨(zv t ds g).toArray,df⟩ d w (fun v _=>v=x)) [o] ⟨(zv t ds g).toArray,df⟩ w:=by intro g w p q hk;replace J:=J.grow p;simp only[fD];(try simp only[aG]at q);(try simp only[q]);go_wp2_with ((with_reducible show Calls _ _ _ _ _);refine hk.mono ?_;rintro e ac ⟨rfl,U⟩;dsimp only);exact⟨rfl,_,rfl,U,rfl⟩)
  (aa:Rs++[fun v _=>v=x]=Rs2:=by exact cHr):zw P ops C t df ds w1 Rs (o::os) (d::dr):=by
 subst aa;exact Qr (fun g w p Z=>hk g w p (ab.all Z) (K w p (J.grow p))) h
theorem qdl {w0:World}{T:TypeId}{U off:Nat}(p:zd P T w0 U off x) (h:zw P ops C t df ds w1 Rs2 os dr) (ab:Kn Rs ds (zD o) xs:=by exact cKn)
  (hk:zd P T w0 U off x->∀ g w,Below w1.heap.size w1 w->y8 g xs->wpList P ops (z7 ⟨(zv t ds g).toArray,df⟩ d w (fun v _=>v=x)) [o] ⟨(zv t ds g).toArray,df⟩ w:=by intro p;intro g w I q;replace J:=J.grow I;simp only[fD];(try simp only[aG]at q);(try simp only[q]);refine zL p J rfl rfl ?_;exact cY)
  (aa:Rs++[fun v _=>v=x]=Rs2:=by exact cHr):zw P ops C t df ds w1 Rs (o::os) (d::dr):=by
 subst aa;exact Qr (fun g w I Z=>hk p g w I (ab.all Z)) h
theorem qdx {aa:Type}{u v:aa}(p:u=v) (h:zw P ops C t df ds w1 Rs2 os dr) (U:Kn Rs ds (zD o) xs:=by exact cKn)
  (hk:u=v->∀ g w,Below w1.heap.size w1 w->y8 g xs->wpList P ops (z7 ⟨(zv t ds g).toArray,df⟩ d w (fun v _=>v=x)) [o] ⟨(zv t ds g).toArray,df⟩ w:=by intro p;intro g w I q;replace J:=J.grow I;simp only[fD];(try simp only[aG]at q);(try simp only[q]);simp only[p];go_wp2;exact cY)
  (T:Rs++[fun v _=>v=x]=Rs2:=by exact cHr):zw P ops C t df ds w1 Rs (o::os) (d::dr):=by
 subst T;exact Qr (fun g w I Z=>hk p g w I (U.all Z)) h
theorem qdp {E:TypeId}{I:List Value}(h:zw P ops C t df ds w1 Rs2 os dr) (U:Kn Rs ds (zD o) xs:=by exact cKn)
  (hk:∀ g w,Below w1.heap.size w1 w->y8 g xs->wpList P ops (z7 ⟨(zv t ds g).toArray,df⟩ d w (UQ w1.heap.size E I)) [o] ⟨(zv t ds g).toArray,df⟩ w:=by intro g w p q;replace J:=J.grow p;simp only[fD];(try simp only[aG]at q);(try simp only[q]);go_wp2;exact⟨rfl,_,rfl,(Below.refl _ _).alloc (Nat.le_refl _) _,_,p.size,rfl,jo _ _⟩)
  (T:Rs++[UQ w1.heap.size E I]=Rs2:=by exact cHr):zw P ops C t df ds w1 Rs (o::os) (d::dr):=by
 subst T;exact JO _ UQ.stable (fun g w p Z=>hk g w p (U.all Z)) h
theorem qdw {E:TypeId}{n:Nat}{I:List Value}(h:zw P ops C t df ds w1 Rs2 os dr) (U:Kn Rs ds (zD o) xs:=by exact cKn)
  (hk:∀ g w,Below w1.heap.size w1 w->y8 g xs->wpList P ops (z7 ⟨(zv t ds g).toArray,df⟩ d w (zdB w1.heap.size E n I)) [o] ⟨(zv t ds g).toArray,df⟩ w:=by intro g w p q;replace J:=J.grow p;simp only[fD];(try simp only[aG]at q);(try simp only[q]);go_wp2;exact⟨rfl,_,rfl,(Below.refl _ _).alloc (Nat.le_refl _) _,_,p.size,rfl,jo _ _⟩)
  (T:Rs++[zdB w1.heap.size E n I]=Rs2:=by exact cHr):zw P ops C t df ds w1 Rs (o::os) (d::dr):=by
 subst T;exact JO _ zdB.stable (fun g w p Z=>hk g w p (U.all Z)) h
theorem zdH (j:Nat) {R:Value->World->Prop}{f:Nat}(h:zw P ops C t df ds w1 Rs2 os dr) (T:Rs[j]? = some R:=by rfl) (I:ds[j]? = some f:=by rfl) (m:j∈zD o:=by decide) (aa:qC R:=by first|exact UQ.stable|exact zdB.stable)
  (hk:∀ g w,Below w1.heap.size w1 w->∀ v,g f=v->R v w->wpList P ops (z7 ⟨(zv t ds g).toArray,df⟩ d w (R)) [o] ⟨(zv t ds g).toArray,df⟩ w:=by intro g w p v q r;simp only[fD];simp only[q];go_wp2;exact⟨rfl,_,rfl,Below.refl _ _,r⟩)
  (U:Rs++[R]=Rs2:=by exact cHr):zw P ops C t df ds w1 Rs (o::os) (d::dr):=by
 subst U;exact JO R aa (fun g w p Z=>hk g w p _ rfl (zcY (Qq Z m) T I)) h
theorem qdn {w0:World}{L:List zg}{D:List zl}(R:Value->World->Prop) (U:qC R) (J:Loc w0 w1 L D) (hk:∀ g w,Below w1.heap.size w1 w->Loc w0 w L D->j7 Rs ds g w (zD o)->y8 g xs->wpList P ops (z7 ⟨(zv t ds g).toArray,df⟩ d w (R)) [o] ⟨(zv t ds g).toArray,df⟩ w) (h:zw P ops C t df ds w1 Rs2 os dr) (T:Kn Rs ds (zD o) xs:=by exact cKn) (I:Rs++[R]=Rs2:=by exact cHr):zw P ops C t df ds w1 Rs (o::os) (d::dr):=by
 subst I;exact JO R U (fun g w p Z=>hk g w p (J.grow p) Z (T.all Z)) h
theorem j2 {w0:World}{L:List zg}{D:List zl}(J:Loc w0 w1 L D) (hk:∀ g w,Below w1.heap.size w1 w->Loc w0 w L D->j7 Rs ds g w (zD o)->y8 g xs->wpList P ops (z7 ⟨(zv t ds g).toArray,df⟩ d w (fun v _=>v=x)) [o] ⟨(zv t ds g).toArray,df⟩ w) (h:zw P ops C t df ds w1 Rs2 os dr) (I:Kn Rs ds (zD o) xs:=by exact cKn) (p:Rs++[fun v _=>v=x]=Rs2:=by exact cHr):zw P ops C t df ds w1 Rs (o::os) (d::dr):=qdn _ zjb J hk h I p
theorem Vj {w0:World}{L:List zg}{D:List zl}(J:Loc w0 w1 L D) (U:Rs[j]? = some (fun v _=>v=.bool e)) (T:ds[j]? = some dj) (ab:(ops[j]?).bind (·.dst)=some dj) (Z:j∈zD (⟨some d,op,ty,pos,after,some (j,b)⟩:Oper)) (aa:dj<t.length) (hk:(e==b)=true->∀ g w,Below w1.heap.size w1 w->Loc w0 w L D->j7 Rs ds g w (zD (⟨some d,op,ty,pos,after,some (j,b)⟩:Oper))->y8 g xs->wpList P ops (z7 ⟨(zv t ds g).toArray,df⟩ d w (fun v _=>v=x)) [⟨some d,op,ty,pos,after,none⟩] ⟨(zv t ds g).toArray,df⟩ w) (h:zw P ops C t df ds w1 Rs2 os dr) (ad:Kn Rs ds (zD (⟨some d,op,ty,pos,after,some (j,b)⟩:Oper)) xs:=by exact cKn) (ac:Rs++[fun v _=>v=cnd (e==b) x]=Rs2:=by exact cHr):zw P ops C t df ds w1 Rs (⟨some d,op,ty,pos,after,some (j,b)⟩::os) (d::dr):=by
 subst ac;exact YI U T ab Z aa (fun I g w p Z=>hk I g w p (J.grow p) Z (ad.all Z)) h
theorem zjc {w0:World}{L:List zg}{D:List zl}(p:List (Nat × Nat)) (i:Nat) (J:Loc w0 w1 L D) (hi:Rs.length=i) (U:Vg ops ds i p=true) (hk:∀ g w,Below w1.heap.size w1 w->Loc w0 w L D->j7 Rs ds g w (zD o)->y8 g xs->zdC t g p->wpList P ops (z7 ⟨(zv t ds g).toArray,df⟩ d w (fun v _=>v=x)) [o] ⟨(zv t ds g).toArray,df⟩ w) (h:zw P ops C t df ds w1 Rs2 os dr) (ab:Kn Rs ds (zD o) xs:=by exact cKn) (T:Rs++[fun v _=>v=x]=Rs2:=by exact cHr):zw P ops C t df ds w1 Rs (o::os) (d::dr):=by
 subst T;exact zdD p i hi U (fun g w I Z aa=>hk g w I (J.grow I) Z (ab.all Z) aa) h
theorem yT {T:TypeId}{I:List Value}{off:Nat}(hv:zn P T I off x) (h:zw P ops C t df ds w1 Rs2 os dr) (aa:Kn Rs ds (zD o) xs:=by exact cKn)
  (hk:zn P T I off x->∀ g w,Below w1.heap.size w1 w->y8 g xs->wpList P ops (z7 ⟨(zv t ds g).toArray,df⟩ d w (fun v _=>v=x)) [o] ⟨(zv t ds g).toArray,df⟩ w:=by intro hv;intro g w p q;replace J:=J.grow p;simp only[fD];(try simp only[aG]at q);(try simp only[q]);refine ya J rfl rfl zeR hv ?_;exact cY)
  (U:Rs++[fun v _=>v=x]=Rs2:=by exact cHr):zw P ops C t df ds w1 Rs (o::os) (d::dr):=by
 subst U;exact Qr (fun g w p Z=>hk hv g w p (aa.all Z)) h
theorem yz {T:TypeId}(I:jy P T) (h:zw P ops C t df ds w1 Rs2 os dr) (aa:Kn Rs ds (zD o) xs:=by exact cKn)
  (hk:jy P T->∀ g w,Below w1.heap.size w1 w->y8 g xs->wpList P ops (z7 ⟨(zv t ds g).toArray,df⟩ d w (fun v _=>v=x)) [o] ⟨(zv t ds g).toArray,df⟩ w:=by intro I;intro g w p q;replace J:=J.grow p;simp only[fD];(try simp only[aG]at q);(try simp only[q]);refine ldO (zn.cell I rfl) J ?_;exact cY)
  (U:Rs++[fun v _=>v=x]=Rs2:=by exact cHr):zw P ops C t df ds w1 Rs (o::os) (d::dr):=by
 subst U;exact Qr (fun g w p Z=>hk I g w p (aa.all Z)) h
theorem qk0 {f:FuncId}{I:Array Value}{w:World}(h:Calls P f I w fun e p=>e=.returned x∧w=p):Calls P f I w fun e p=>e=.returned x∧Below w.heap.size w p:=h.mono fun _ _ h=>⟨h.1,h.2▸Below.refl _ _⟩
theorem yu {w0:World}{L:List zg}{D:List zl}{f:FuncId}{T:Array Value}(J:Loc w0 w1 L D) (K:∀ w,Below w1.heap.size w1 w->Loc w0 w L D->Calls P f T w fun e I=>e=.returned x∧Below w.heap.size w I) (h:zw P ops C t df ds w1 Rs2 os dr)
  (ad:Rs[j]? = some (fun v _=>v=.bool e):=by rfl) (ac:ds[j]? = some dj:=by rfl) (af:(ops[j]?).bind (·.dst)=some dj:=by rfl) (Z:j∈zD (⟨some d,op,ty,pos,after,some (j,b)⟩:Oper):=by decide) (ae:dj<t.length:=by simp) (ah:Kn Rs ds (zD (⟨some d,op,ty,pos,after,some (j,b)⟩:Oper)) xs:=by exact cKn)
  (hk:(e==b)=true->∀ g w,Below w1.heap.size w1 w->y8 g xs->(Calls P f T w fun e I=>e=.returned x∧Below w.heap.size w I)->wpList P ops (z7 ⟨(zv t ds g).toArray,df⟩ d w (fun v _=>v=x)) [⟨some d,op,ty,pos,after,none⟩] ⟨(zv t ds g).toArray,df⟩ w:=by intro U;simp only[Bool.and_eq_true,YG,YH]at U;intro g w p q;replace J:=J.grow p;simp only[fD];(try simp only[aG,U,beq_self_eq_true,Bool.and_self,Bool.true_and,Bool.and_true,Kd]at q);(try simp only[q]);intro hk;go_wp2_with ((with_reducible show Calls _ _ _ _ _);refine hk.mono ?_;rintro e ai ⟨rfl,aa⟩;dsimp only);exact⟨rfl,_,rfl,aa,rfl⟩)
  (ag:Rs++[fun v _=>v=cnd (e==b) x]=Rs2:=by exact cHr):zw P ops C t df ds w1 Rs (⟨some d,op,ty,pos,after,some (j,b)⟩::os) (d::dr):=by
 subst ag;exact YI ad ac af Z ae (fun ab g w p Z=>hk ab g w p (ah.all Z) (K w p (J.grow p))) h
theorem zdI {w0:World}{L:List zg}{D:List zl}{f:FuncId}{T:Array Value}(J:Loc w0 w1 L D) (K:∀ w,Below w1.heap.size w1 w->Loc w0 w L D->Calls P f T w fun e I=>e=.returned x∧Below w.heap.size w I) (h:zw P ops C t df ds w1 Rs2 os dr)
  (ad:Rs[j]? = some (fun v _=>v=cnd c (.bool e)):=by rfl) (ac:ds[j]? = some dj:=by rfl) (af:(ops[j]?).bind (·.dst)=some dj:=by rfl) (Z:j∈zD (⟨some d,op,ty,pos,after,some (j,b)⟩:Oper):=by decide) (ae:dj<t.length:=by simp) (ah:Kn Rs ds (zD (⟨some d,op,ty,pos,after,some (j,b)⟩:Oper)) xs:=by exact cKn)
  (hk:(c&&(e==b))=true->∀ g w,Below w1.heap.size w1 w->y8 g xs->(Calls P f T w fun e I=>e=.returned x∧Below w.heap.size w I)->wpList P ops (z7 ⟨(zv t ds g).toArray,df⟩ d w (fun v _=>v=x)) [⟨some d,op,ty,pos,after,none⟩] ⟨(zv t ds g).toArray,df⟩ w:=by intro U;simp only[Bool.and_eq_true,YG,YH]at U;intro g w p q;replace J:=J.grow p;simp only[fD];(try simp only[aG,U,beq_self_eq_true,Bool.and_self,Bool.true_and,Bool.and_true,Kd]at q);(try simp only[q]);intro hk;go_wp2_with ((with_reducible show Calls _ _ _ _ _);refine hk.mono ?_;rintro e ai ⟨rfl,aa⟩;dsimp only);exact⟨rfl,_,rfl,aa,rfl⟩)
  (ag:Rs++[fun v _=>v=cnd (c&&(e==b)) x]=Rs2:=by exact cHr):zw P ops C t df ds w1 Rs (⟨some d,op,ty,pos,after,some (j,b)⟩::os) (d::dr):=by
 subst ag;exact Uy ad ac af Z ae (fun ab g w p Z=>hk ab g w p (ah.all Z) (K w p (J.grow p))) h
end
inductive Yl:List (Value->World->Prop)->List Value->Prop where
 | nil:Yl [] []
 | cons {x:Value} {Rs:List (Value->World->Prop)} {xs:List Value} (h:Yl Rs xs):Yl ((fun v _=>v=x)::Rs) (x::xs)
def zr:List Value->List Nat->List Value->List Value
 | t,d::ds,x::xs=>zr (t.set d x) ds xs
 | t,_,_=>t
theorem Vk {g:Nat->Value}{w:World}:∀ {Rs:List (Value->World->Prop)}{xs:List Value}(T:Yl Rs xs) {ds:List Nat}{t:List Value}(_:ds.length=Rs.length) (_:∀ j,j<Rs.length->RAt Rs ds j g w),zv t ds g=zr t ds xs:=by
 intro Rs xs T;induction T with
 | nil=>intro ds t p _;cases ds with
  | nil=>rfl
  | cons d ds=>simp at p
 | @cons x Rs xs h ih=>
  intro ds t p I;cases ds with
  | nil=>simp at p
  | cons d ds=>
   have U:g d=x:=U3 (I 0 (by simp)) rfl rfl;show zv (t.set d (g d)) ds g=zr (t.set d x) ds xs
   rw[U];exact ih (by simpa using p) (fun j aa=>I (j+1) (by simpa using aa))
section
variable {P : Program} {ops : Array Oper} {Q : Exit -> Act -> World -> Prop} {t : List Value} {df : List Deferred} {ds : List Nat} {w1 : World} {Rs : List (Value -> World -> Prop)} {id : Nat} {os : List Oper} {L : List zg} {D : List zl} {w0 : World} {xs : List Value}
theorem dnd (J:Loc w0 w1 L D) (h:∀ w,Loc w0 w L D->wpList P ops Q os ⟨(zr t ds xs).toArray,df⟩ w) (T:Yl Rs xs:=by repeat (first|exact Yl.nil|apply Yl.cons)) (hn:ds.length=Rs.length:=by rfl) (ab:P.follows .mixedOrders=true:=by kernel_rfl) (p:Region.drawB ops ds=true:=by kernel_rfl):
  zw P ops ((Code.region id ops true).wp P Q ⟨t.toArray,df⟩ w1) t df ds w1 Rs os []:=
 zaj J ab p fun g w U I=>by
  rw[Vk T hn (fun j aa=>Qq I (List.mem_range.2 aa))];exact h w (J.grow U)
theorem dns (J:Loc w0 w1 L D) (h:∀ w,Loc w0 w L D->wpList P ops Q os ⟨(zr t ds xs).toArray,df⟩ w) (T:Yl Rs xs:=by repeat (first|exact Yl.nil|apply Yl.cons)) (hn:ds.length=Rs.length:=by rfl) (p:Region.lineB ops ds=true:=by kernel_rfl):
  zw P ops ((Code.region id ops false).wp P Q ⟨t.toArray,df⟩ w1) t df ds w1 Rs os []:=
 zcZ J p fun g w U I=>by
  rw[Vk T hn (fun j aa=>Qq I (List.mem_range.2 aa))];exact h w (J.grow U)
end
section
variable {P : Program} {ops : Array Oper} {Q : Exit -> Act -> World -> Prop} {t : List Value} {df : List Deferred} {ds : List Nat} {w1 : World} {Rs : List (Value -> World -> Prop)} {id : Nat} {os : List Oper} {L : List zg} {D : List zl} {w0 : World} {ys : List (Nat × Value)}
theorem qy (J:Loc w0 w1 L D) (h:∀ g w,Below w1.heap.size w1 w->zan Rs ds g w->y8 g ys->wpList P ops Q os ⟨(zv t ds g).toArray,df⟩ w) (aa:KnE Rs ds ys:=by exact cKe) (U:P.follows .mixedOrders=true:=by kernel_rfl) (I:Region.drawB ops ds=true:=by kernel_rfl):zw P ops ((Code.region id ops true).wp P Q ⟨t.toArray,df⟩ w1) t df ds w1 Rs os []:=
 zaj J U I (fun g w T p=>h g w T (Qj p) (aa.all (Qj p)))
theorem des (J:Loc w0 w1 L D) (h:∀ g w,Below w1.heap.size w1 w->zan Rs ds g w->y8 g ys->wpList P ops Q os ⟨(zv t ds g).toArray,df⟩ w) (U:KnE Rs ds ys:=by exact cKe) (I:Region.lineB ops ds=true:=by kernel_rfl):zw P ops ((Code.region id ops false).wp P Q ⟨t.toArray,df⟩ w1) t df ds w1 Rs os []:=
 zcZ J I (fun g w T p=>h g w T (Qj p) (U.all (Qj p)))
theorem de1 (k:Nat) (J:Loc w0 w1 L D) (T:zbJ P ops t df ds w1 Rs k) (h:∀ g w,Below w1.heap.size w1 w->zan Rs ds g w->y8 g ys->wpList P ops Q os ⟨(zv t ds g).toArray,df⟩ w) (ac:KnE Rs ds ys:=by exact cKe) (ab:P.follows .mixedOrders=true:=by kernel_rfl) (I:Region.drawF ops ds [k]=true:=by kernel_rfl) (U:∀ c a (d:Nat) v w,Q (.panic c) (a.put (some d) v) w->Q (.panic c) a w:=by exact fun _ _ _ _ _ h=>h):zw P ops ((Code.region id ops true).wp P Q ⟨t.toArray,df⟩ w1) t df ds w1 Rs os []:=
 zdE k J ab I U T (fun g w aa p=>h g w aa (Qj p) (ac.all (Qj p)))
theorem deF (p:List Nat) (J:Loc w0 w1 L D) (U:∀ i∈p,∀ o d R,ops[i]? = some o->ds[i]? = some d->Rs[i]? = some R->∀ g w,Below w1.heap.size w1 w->j7 Rs ds g w (zD o)->∃ v,Yields P ops o v ⟨(zv t ds g).toArray,df⟩∧R v w) (h:∀ g w,Below w1.heap.size w1 w->zan Rs ds g w->y8 g ys->wpList P ops Q os ⟨(zv t ds g).toArray,df⟩ w) (ad:KnE Rs ds ys:=by exact cKe) (ac:P.follows .mixedOrders=true:=by kernel_rfl) (T:Region.drawF ops ds p=true:=by kernel_rfl) (aa:∀ c a (d:Nat) v w,Q (.panic c) (a.put (some d) v) w->Q (.panic c) a w:=by exact fun _ _ _ _ _ h=>h):zw P ops ((Code.region id ops true).wp P Q ⟨t.toArray,df⟩ w1) t df ds w1 Rs os []:=
 XC p J ac T aa U (fun g w ab I=>h g w ab (Qj I) (ad.all (Qj I)))
end
section
variable {P : Program} {a : Act} {w : World} {fn : Func} {R : Ending -> World -> Prop} {r s t q : ResultVar} {v u x y : Value}
theorem cMm {p:Prop}(h:p:=by repeat (first|exact List.mem_cons_self|apply List.mem_cons_of_mem)):p:=h
theorem cIn {p:Prop}(h:p:=by repeat (first|exact InL.head|apply InL.tail)):p:=h
theorem rt1 (p:R (.returned v) w) (T:fn.results=#[r]:=by rfl) (h:QJ P w a.tmps r v:=by exact Xk) (I:a.defers=[]:=by rfl):bodyPost P fn R .ret a w:=zi5 T h I p
theorem rt2 (p:R (.returned (.tuple #[v,u])) w) (T:fn.results=#[r,s]:=by rfl) (h:QJ P w a.tmps r v:=by exact Xk) (k:QJ P w a.tmps s u:=by exact Xk) (I:a.defers=[]:=by rfl):bodyPost P fn R .ret a w:=zi6 T h k I p
theorem rt3 (p:R (.returned (.tuple #[v,u,x])) w) (T:fn.results=#[r,s,t]:=by rfl) (h:QJ P w a.tmps r v:=by exact Xk) (k:QJ P w a.tmps s u:=by exact Xk) (l:QJ P w a.tmps t x:=by exact Xk) (I:a.defers=[]:=by rfl):bodyPost P fn R .ret a w:=zi7 T h k l I p
theorem rt4 (p:R (.returned (.tuple #[v,u,x,y])) w) (T:fn.results=#[r,s,t,q]:=by rfl) (h:QJ P w a.tmps r v:=by exact Xk) (k:QJ P w a.tmps s u:=by exact Xk) (l:QJ P w a.tmps t x:=by exact Xk) (m:QJ P w a.tmps q y:=by exact Xk) (I:a.defers=[]:=by rfl):bodyPost P fn R .ret a w:=zi8 T h k l m I p
end
def zho (b:Nat) (es:Array MapEntry) (c:Nat):zl:=fun w=>w.heap[b]? = some (.map es c)
theorem zho.fresh {w w1:World}{b:Nat}{es:Array MapEntry}{c:Nat}(I:w.heap.size<=b) (p:w1.heap[b]? = some (.map es c)):zag w w1 (zho b es c):=
 ⟨fun k=>k=b,fun k T=>by subst T;exact⟨I,zz p⟩,fun aa U=>by show aa.heap[b]? = _;rw[U b rfl];exact p⟩
structure zdJ (P:Program) (T K V:TypeId):Prop where
 und:P.underlying T=some (.map K V)
 key:P.underlying K=some (.int .i64)
def jF (l:List (Int × Value)):List MapEntry:=l.zipIdx.map fun x=>⟨.int .i64 x.1.1,x.1.2,x.2⟩
theorem J7 (k:Int):∀ (l:List (Int × Value)) (j i:Nat),Instr.findNow (.int .i64) (.int .i64 k) ((l.zipIdx j).map fun x=>(⟨.int .i64 x.1.1,x.1.2,x.2⟩:MapEntry)) i =
  some (((l.zipIdx i).find? fun x=>k==x.1.1).map fun x=>(x.2,x.1.2))
 | [],_,_=>rfl
 | x::l,j,i=>by
  simp only[List.zipIdx_cons,List.map_cons,Instr.findNow,Instr.sameNow,if_true,List.find?_cons];cases h:(k==x.1) with
  | true=>simp
  | false=>simp only[J7 k l (j+1) (i+1)]
section
variable {P : Program} {w : World}
theorem Zx {b:Nat}{es:Array MapEntry}{c:Nat}(h:w.heap[b]? = some (.map es c)):(getObj b).run P w=.ok (.map es c) w:=by
 simp[getObj,Sem.run,h]
theorem Vm {b:Nat} {es:Array MapEntry} {c:Nat} {o:Obj} (h:w.heap[b]? = some (.map es c)):(setObj b o).run P w=.ok () { w with heap:=w.heap.setIfInBounds b o }:=by
 simp[setObj,Sem.run,h]
theorem Kf {T K V:TypeId}(hT:zdJ P T K V) (e:Bool) (n:Nat) (k:Int):(Instr.checkKey e (n+1) K (.int .i64 k)).run P w=.ok () w:=by
 unfold Instr.checkKey;rw[Sem.run_bind,run_underlying hT.key];simp
theorem zbM {T K V:TypeId}(hT:zdJ P T K V) {b:Nat}{l:List (Int × Value)}{k:Int}{v:Value}(h:w.heap[b]? = some (.map (jF l).toArray l.length)) (hn:l.all (fun x=>!(k==x.1))=true):
  (Instr.mapUpdate T (.map (some b)) (.int .i64 k) v).run P w=.ok () { w with heap:=w.heap.setIfInBounds b (.map (jF (l++[(k,v)])).toArray (l++[(k,v)]).length) }:=by
 have U:((l.zipIdx 0).find? fun x=>k==x.1.1)=none:=by
  rw[List.find?_eq_none];intro x ab;have:=List.all_eq_true.1 hn x.1 (by
   have:=List.mem_map_of_mem (f:=Prod.fst) ab;simpa using this)
  simpa using this
 have aa:(Instr.findKey K (.int .i64 k) (jF l)).run P w=.ok none w:=by
  have p:=J7 k l 0 0;rw[U]at p;simp only[Option.map_none]at p;simp only[Instr.findKey,Sem.run_bind,run_underlying hT.key,Result.andThen_ok,jF,p];simp
 have I:∀ e,(Instr.checkKey e 10000 K (.int .i64 k)).run P w=.ok () w:=fun e=>Kf hT e 9999 k
 simp only[Instr.mapUpdate,Sem.run_bind,run_underlying hT.und,Result.andThen_ok,Zx h,I,aa];rw[Vm h];simp[jF,List.zipIdx_append]
def Kg (l:List (Int × Value)) (z:Value) (k:Int):Value:=match l.find? (fun x=>k==x.1) with|some x=>.tuple #[x.2,.bool true]|none=>.tuple #[z,.bool false]
theorem Vn {T K V:TypeId}(hT:zdJ P T K V) {z:Value}(hz:∀ w,(zeroValue V).run P w=.ok z w) {b:Nat}{l:List (Int × Value)}{k:Int}(h:w.heap[b]? = some (.map (jF l).toArray l.length)):
  (Instr.lookup T (.map (some b)) (.int .i64 k) true).run P w=.ok (Kg l z k) w:=by
 unfold Kg;have p:=J7 k l 0 0;have I:∀ e,(Instr.checkKey e 10000 K (.int .i64 k)).run P w=.ok () w:=fun e=>Kf hT e 9999 k
 have U:(((l.zipIdx 0).find? fun x=>k==x.1.1).map fun x=>x.1)=l.find? (fun x=>k==x.1):=by
  have:∀ (l:List (Int × Value)) (i:Nat),(((l.zipIdx i).find? fun x=>k==x.1.1).map fun x=>x.1)=l.find? (fun x=>k==x.1):=by
   intro l;induction l with
   | nil=>intro i;rfl
   | cons x l ih=>
    intro i;simp only[List.zipIdx_cons,List.find?_cons];cases (k==x.1) with
    | true=>rfl
    | false=>exact ih (i+1)
  exact this l 0
 have aa:(Instr.findKey K (.int .i64 k) (jF l)).run P w=.ok (((l.zipIdx 0).find? fun x=>k==x.1.1).map fun x=>(x.2,x.1.2)) w:=by
  simp only[Instr.findKey,Sem.run_bind,run_underlying hT.key,Result.andThen_ok,jF,p];simp
 simp only[Instr.lookup,Sem.run_bind,run_underlying hT.und,Result.andThen_ok,Zx h,Sem.run_pure,I,aa];rw[<- U];cases (l.zipIdx 0).find? fun x=>k==x.1.1 with
 | none=>simp[hz]
 | some x=>simp
end
theorem za {p:Prop} (h:p):RowKit.Hid p:=h
theorem cg {P:Program} {f:FuncId} {I:Array Value} {w0 w:World} {L:List zg} {D:List zl} {x:Value} {R:Ending->World->Prop} (J:Loc w0 w L D) (K:Calls P f I w fun e p=>e=.returned x∧Below w.heap.size w p) (h:∀ p,Loc w0 p L D->R (.returned x) p):Calls P f I w R:=K.mono fun _ p T=>by rw[T.1];exact h p (J.grow T.2)
theorem cg0 {P:Program} {f:FuncId} {p:Array Value} {w:World} {x:Value} {R:Ending->World->Prop} (K:Calls P f p w fun e T=>e=.returned x∧w=T) (h:R (.returned x) w):Calls P f p w R:=K.mono fun _ T I=>by rw[I.1,<-I.2];exact h
theorem aX:(∀ {p:Type} (a:p) (l m:List p),(a::l)++m=a::(l++m))∧∀ {p:Type} (l:List p),[]++l=l:=⟨fun _ _ _=>rfl,fun _=>rfl⟩
theorem bX:(∀ b:Bool,(b==b)=true)∧(∀ b,(b&&b)=b)∧(∀ b,(true&&b)=b)∧(∀ b,(b&&true)=b)∧∀ x,cnd true x=x:=⟨beq_self_eq_true,Bool.and_self,Bool.true_and,Bool.and_true,fun _=>rfl⟩
end Go.Proofs.YtplcndmdkabmeaaGreatDoor
