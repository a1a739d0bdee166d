import Derived.Test.YtplcndmdkabmeaaGreatDoorRows
import Derived.WalkKit
import Derived.WalkSpells
import Derived.WalkLawsBesides
import Derived.Lib.Hide
import Derived.LoopN
import Derived.Deep.RegionHeld3
import Derived.Laws.MakeOwn
import Derived.StillTail
set_option linter.unusedSimpArgs false
set_option linter.unusedVariables false
set_option maxRecDepth 100000
namespace Go.Proofs.YtplcndmdkabmeaaGreatDoor
open Go.RowKit
def inRange (n:Int):Bool:=decide (-2147483648≤n)&&decide (n≤2147483647)
structure Span where
 none:Bool
 lo:Int
 hi:Int
abbrev Span.v (s:Span):Value:=.agg #[.bool s.none,.int .i64 s.lo,.int .i64 s.hi]
abbrev noSpan:Span:=⟨true,0,0⟩
abbrev zeroSpan:Span:=⟨false,0,0⟩
def checkSpan (s:Span):Int:=if !(inRange s.lo) || !(inRange s.hi) then 3 else if s.none&&(s.lo != 0 || s.hi != 0) then 1 else if s.hi<s.lo then 4 else 0
def inSpan (s:Span) (n:Int):Bool:=!s.none&&(decide (s.lo≤n)&&decide (n≤s.hi))
def both (s t:Span):Span:=if s.none then t else if t.none then s else ⟨false,min s.lo t.lo,max s.hi t.hi⟩
def common (s t:Span):Span:=if s.none || t.none || decide (min s.hi t.hi<max s.lo t.lo) then noSpan else ⟨false,max s.lo t.lo,min s.hi t.hi⟩
def inside (s t:Span):Bool:=s.none || (!t.none&&decide (t.lo≤s.lo)&&decide (s.hi≤t.hi))
def wider (s t:Span):Span:=if s.none || t.none then both s t else ⟨false,if t.lo<s.lo then -2147483648 else min s.lo t.lo,if s.hi<t.hi then 2147483647 else max s.hi t.hi⟩
def min2 (a b:Int):Int:=if b<a then b else a
def max2 (a b:Int):Int:=if b > a then b else a
def min4 (a b c d:Int):Int:=min2 (min2 (min2 a b) c) d
def max4 (a b c d:Int):Int:=max2 (max2 (max2 a b) c) d
def rawMade (kind:Int) (s t:Span):Int × Int:=
 if kind=6 then (s.lo - t.hi,s.hi - t.lo) else if kind=7 then (min4 (s.lo*t.lo) (s.lo*t.hi) (s.hi*t.lo) (s.hi*t.hi),max4 (s.lo*t.lo) (s.lo*t.hi) (s.hi*t.lo) (s.hi*t.hi)) else (s.lo+t.lo,s.hi+t.hi)
def made (kind:Int) (s t:Span):Span:=
 if s.none || t.none then noSpan else if inRange (rawMade kind s t).1&&inRange (rawMade kind s t).2 then ⟨false,(rawMade kind s t).1,(rawMade kind s t).2⟩ else ⟨false,-2147483648,2147483647⟩
theorem inRange_iff {n:Int}:inRange n=true↔-2147483648≤n∧n≤2147483647:=by simp[inRange]
abbrev LBlk:=Nat × TypeId × List Value
abbrev Datum:=World→Prop
def On (w:World) (X:Nat→Prop) (S:Datum):Prop:=∀ w' : World,(∀ b,X b→w'.heap[b]? = w.heap[b]?)→S w'
def Fresh (w w1:World) (S:Datum):Prop:=∃ X:Nat→Prop,(∀ b,X b→w.heap.size≤b∧b<w1.heap.size)∧On w1 X S
structure Loc (w0 w:World) (L:List LBlk) (D:List Datum):Prop where
 below:Below w0.heap.size w0 w
 nodup:(L.map (·.1)).Nodup
 ids:∀ e∈L,w0.heap.size≤e.1
 cells:∀ e∈L,w.heap[e.1]? = some (.cells e.2.2.toArray e.2.1 (0,0))
 data:∀ S∈D,∃ X:Nat→Prop,(∀ b,X b→(b<w.heap.size∧w0.heap.size≤b)∧∀ e∈L,e.1≠b)∧On w X S
theorem Loc.start (w:World):Loc w w [] []:=
 ⟨Below.refl _ _,by simp,by simp,by simp,by simp⟩
theorem Loc.size {w0 w:World}{L D}(h:Loc w0 w L D):w0.heap.size≤w.heap.size:=h.below.size
theorem heap_lt {w:World}{b:Nat}{o:Obj}(h:w.heap[b]? = some o):b<w.heap.size:=by
 rcases Nat.lt_or_ge b w.heap.size with h1|h1
 ·exact h1
 ·rw[Array.getElem?_eq_none h1]at h;cases h
theorem Loc.get {w0 w:World}{L D}(h:Loc w0 w L D) {S:Datum}(hS:S∈D):S w:=by
 obtain⟨X,_,hX⟩:=h.data S hS;exact hX w (fun _ _=>rfl)
theorem Loc.grow {w0 w w1:World}{L D}(h:Loc w0 w L D) (hb:Below w.heap.size w w1):Loc w0 w1 L D:=by
 refine⟨h.below.trans (hb.mono h.size),h.nodup,h.ids,fun e he=>?_,fun S hS=>?_⟩
 ·rw[hb.block _ (heap_lt (h.cells e he))];exact h.cells e he
 ·obtain⟨X,hX,hO⟩:=h.data S hS
  refine⟨X,fun b hx=>⟨⟨Nat.lt_of_lt_of_le (hX b hx).1.1 hb.size,(hX b hx).1.2⟩,(hX b hx).2⟩,fun w' hw'=>hO w' fun b hx=>?_⟩
  rw[hw' b hx,hb.block _ (hX b hx).1.1]
theorem Loc.more {w0 w w1:World}{L D}(h:Loc w0 w L D) (hb:Below w.heap.size w w1) {S:Datum}(hS:Fresh w w1 S):Loc w0 w1 L (S::D):=by
 have h1:=h.grow hb
 refine⟨h1.below,h1.nodup,h1.ids,h1.cells,fun S' hS'=>?_⟩
 rcases List.mem_cons.1 hS' with rfl|hS'
 ·obtain⟨X,hX,hO⟩:=hS
  exact⟨X,fun b hx=>⟨⟨(hX b hx).2,Nat.le_trans h.size (hX b hx).1⟩,fun e he hne=>by have:=heap_lt (h.cells e he);have:=(hX b hx).1;omega⟩,hO⟩
 ·exact h1.data S' hS'
theorem Loc.moreAll {w0 w w1:World}{L D}(h:Loc w0 w L D) (hb:Below w.heap.size w w1) {Ds:List Datum}(hS:∀ S∈Ds,Fresh w w1 S):Loc w0 w1 L (Ds++D):=by
 have h1:=h.grow hb
 refine⟨h1.below,h1.nodup,h1.ids,h1.cells,fun S' hS'=>?_⟩
 rcases List.mem_append.1 hS' with hS' | hS'
 ·obtain⟨X,hX,hO⟩:=hS S' hS'
  exact⟨X,fun b hx=>⟨⟨(hX b hx).2,Nat.le_trans h.size (hX b hx).1⟩,fun e he hne=>by have:=heap_lt (h.cells e he);have:=(hX b hx).1;omega⟩,hO⟩
 ·exact h1.data S' hS'
def HeapAt (b:Nat) (T:TypeId) (cs:List Value):Datum:=fun w=>w.heap[b]? = some (.cells cs.toArray T (0,0))
theorem HeapAt.fresh {w w1:World}{b:Nat}{T:TypeId}{cs:List Value}(h1:w.heap.size≤b) (h2:w1.heap[b]? = some (.cells cs.toArray T (0,0))):Fresh w w1 (HeapAt b T cs):=
 ⟨fun k=>k=b,fun k hk=>by subst hk;exact⟨h1,heap_lt h2⟩,fun w' hw'=>by show w'.heap[b]? = _;rw[hw' b rfl];exact h2⟩
theorem Loc.drop {w0 w:World}{L L' D D'}(h:Loc w0 w L D) (hL:L'.Sublist L) (hD:∀ S∈D',S∈D):Loc w0 w L' D':=
 ⟨h.below,(hL.map _).nodup h.nodup,fun e he=>h.ids e (hL.subset he),fun e he=>h.cells e (hL.subset he),fun S hS=>by
  obtain⟨X,hX,hO⟩:=h.data S (hD S hS)
  exact⟨X,fun b hx=>⟨(hX b hx).1,fun e he=>(hX b hx).2 e (hL.subset he)⟩,hO⟩⟩
theorem Loc.box {w0 w:World}{L D}(h:Loc w0 w L D) (T:TypeId) (cs:List Value):Loc w0 (w.alloc (.cells cs.toArray T)) ((w.heap.size,T,cs)::L) D:=by
 have h1:=h.grow ((Below.refl _ _).alloc (Nat.le_refl _) (.cells cs.toArray T))
 refine⟨h1.below,?_,?_,?_,?_⟩
 ·simp only[List.map_cons,List.nodup_cons]
  refine⟨fun hm=>?_,h.nodup⟩
  obtain⟨e,he,hee⟩:=List.mem_map.1 hm
  have:=heap_lt (h.cells e he);omega
 ·intro e he
  rcases List.mem_cons.1 he with rfl|he
  ·exact h.size
  ·exact h.ids e he
 ·intro e he
  rcases List.mem_cons.1 he with rfl|he
  ·show (w.heap.push _)[w.heap.size]? = _;simp
  ·exact h1.cells e he
 ·intro S hS
  obtain⟨X,hX,hO⟩:=h.data S hS
  refine⟨X,fun b hx=>⟨⟨by have:=(hX b hx).1.1;simp;omega,(hX b hx).1.2⟩,fun e he=>?_⟩,fun w' hw'=>hO w' fun b hx=>?_⟩
  ·rcases List.mem_cons.1 he with rfl|he
   ·have:=(hX b hx).1.1;show w.heap.size≠b;omega
   ·exact(hX b hx).2 e he
  ·rw[hw' b hx,Below.heap_alloc _ _ _ (hX b hx).1.1]
theorem Loc.drew {w0 w:World}{L D}(h:Loc w0 w L D):Loc w0 w.drew L D:=h.grow ((Below.refl _ _).drew)
inductive InL (b:Nat) (T:TypeId) (cs:List Value):List LBlk→(List Value→List LBlk)→Prop where
 | head {L:List LBlk}:InL b T cs ((b,T,cs)::L) (fun c=>(b,T,c)::L)
 | tail {L:List LBlk} {f:List Value→List LBlk} (x:LBlk) (h:InL b T cs L f):InL b T cs (x::L) (fun c=>x::f c)
theorem InL.mem {b T cs L f}(h:InL b T cs L f):(b,T,cs)∈L:=by
 induction h with
 | head=>exact List.mem_cons_self
 | tail x _ ih=>exact List.mem_cons_of_mem _ ih
theorem InL.ids {b T cs L f}(h:InL b T cs L f) (c:List Value):(f c).map (·.1)=L.map (·.1):=by
 induction h with
 | head=>rfl
 | tail x _ ih=>simp[ih]
theorem InL.memf {b T cs L f}(h:InL b T cs L f) (c:List Value) (hn:(L.map (·.1)).Nodup) {e:LBlk}(he:e∈f c):e=(b,T,c)∨(e∈L∧e.1≠b):=by
 induction h with
 | @head L=>
  rcases List.mem_cons.1 he with rfl|he
  ·exact .inl rfl
  ·simp only[List.map_cons,List.nodup_cons]at hn
   exact .inr ⟨List.mem_cons_of_mem _ he,fun hb=>hn.1 (List.mem_map.2 ⟨e,he,hb⟩)⟩
 | tail x h ih=>
  simp only[List.map_cons,List.nodup_cons]at hn
  rcases List.mem_cons.1 he with rfl|he
  ·exact .inr ⟨List.mem_cons_self,fun hb=>hn.1 (List.mem_map.2 ⟨_,h.mem,hb.symm⟩)⟩
  ·rcases ih hn.2 he with h1|⟨h1,h2⟩
   ·exact .inl h1
   ·exact .inr ⟨List.mem_cons_of_mem _ h1,h2⟩
theorem Loc.only {w0 w:World}{L D b T cs f}(h:Loc w0 w L D) (hm:InL b T cs L f):Loc w0 w [(b,T,cs)] []:=
 ⟨h.below,by simp,fun e he=>by rw[List.mem_singleton.1 he];exact h.ids _ hm.mem,fun e he=>by rw[List.mem_singleton.1 he];exact h.cells _ hm.mem,by simp⟩
theorem Loc.conv {w0 w:World}{L L' D}(h:Loc w0 w L D) (e:L=L'):Loc w0 w L' D:=e▸h
theorem Loc.heap {w0 w:World}{L D b T cs f}(h:Loc w0 w L D) (hm:InL b T cs L f):w.heap[b]? = some (.cells cs.toArray T (0,0)):=h.cells _ hm.mem
theorem Loc.cell {w0 w:World}{L D b T cs f}(h:Loc w0 w L D) (hm:InL b T cs L f) (j:Nat):w.cell? ⟨b,j,none⟩=cs[j]? :=by
 simp[World.cell?,h.heap hm]
theorem Loc.all {w0 w:World}{L D}(h:Loc w0 w L D):∀ e∈L,∀ j,w.cell? ⟨e.1,j,none⟩=e.2.2[j]? :=fun e he j=>by
 simp[World.cell?,h.cells e he]
theorem Loc.gain {w0 w w1:World}{L D}(h:Loc w0 w L D) (hb:Below w.heap.size w w1) {b:Nat}{T:TypeId}{cs:List Value}(hw:w.heap.size≤b) (hc:w1.heap[b]? = some (.cells cs.toArray T (0,0))):Loc w0 w1 ((b,T,cs)::L) D:=by
 have h1:=h.grow hb
 refine⟨h1.below,?_,?_,?_,?_⟩
 ·simp only[List.map_cons,List.nodup_cons]
  refine⟨fun hm=>?_,h.nodup⟩
  obtain⟨e,he,hee⟩:=List.mem_map.1 hm
  have:=heap_lt (h.cells e he);omega
 ·intro e he
  rcases List.mem_cons.1 he with rfl|he
  ·exact Nat.le_trans h.size hw
  ·exact h.ids e he
 ·intro e he
  rcases List.mem_cons.1 he with rfl|he
  ·exact hc
  ·exact h1.cells e he
 ·intro S hS
  obtain⟨X,hX,hO⟩:=h.data S hS
  refine⟨X,fun k hx=>⟨⟨Nat.lt_of_lt_of_le (hX k hx).1.1 hb.size,(hX k hx).1.2⟩,fun e he=>?_⟩,fun w' hw'=>hO w' fun k hx=>?_⟩
  ·rcases List.mem_cons.1 he with rfl|he
   ·have:=(hX k hx).1.1;show b≠k;omega
   ·exact(hX k hx).2 e he
  ·rw[hw' k hx,hb.block _ (hX k hx).1.1]
def Held (S:World→Prop) (w:World):Prop:=S w
theorem Loc.hold {w0 w:World}{L D}(h:Loc w0 w L D):∃ S:World→Prop,(∀ w',Held S w'→∀ e∈L,∀ j,w'.cell? ⟨e.1,j,none⟩=e.2.2[j]?)∧(∀ w',Held S w'→Loc w0 w' L D)∧
  (∀ w',Below w.heap.size w w'→Held S w'):=
 ⟨fun w'=>Below w.heap.size w w',fun _ hb=>(h.grow hb).all,fun _ hb=>h.grow hb,fun _ h=>h⟩
theorem Loc.put {w0 w w1:World}{L D b T cs f}(h:Loc w0 w L D) (hm:InL b T cs L f) (c:List Value) (hos:w1.os=w.os) (ht:w1.tape=w.tape) (ho:w1.output=w.output)
  (hs:w.heap.size≤w1.heap.size) (hb:w1.heap[b]? = some (.cells c.toArray T (0,0))) (hr:∀ k,k<w.heap.size→k≠b→w1.heap[k]? = w.heap[k]?):Loc w0 w1 (f c) D:=by
 have hid:w0.heap.size≤b:=h.ids _ hm.mem
 refine⟨⟨hos.trans h.below.os,ht.trans h.below.tape,ho.trans h.below.output,Nat.le_trans h.size hs,fun k hk=>?_⟩,by rw[hm.ids];exact h.nodup,fun e he=>?_,fun e he=>?_,fun S hS=>?_⟩
 ·rw[hr k (Nat.lt_of_lt_of_le hk h.size) (by omega)];exact h.below.block k hk
 ·rcases hm.memf c h.nodup he with rfl|⟨h1,_⟩
  ·exact hid
  ·exact h.ids e h1
 ·rcases hm.memf c h.nodup he with rfl|⟨h1,h2⟩
  ·exact hb
  ·rw[hr _ (heap_lt (h.cells e h1)) h2];exact h.cells e h1
 ·obtain⟨X,hX,hO⟩:=h.data S hS
  refine⟨X,fun k hx=>⟨⟨Nat.lt_of_lt_of_le (hX k hx).1.1 hs,(hX k hx).1.2⟩,fun e he=>?_⟩,fun w' hw'=>hO w' fun k hx=>?_⟩
  ·rcases hm.memf c h.nodup he with rfl|⟨h1,_⟩
   ·exact(hX k hx).2 (b,T,cs) hm.mem
   ·exact(hX k hx).2 e h1
  ·rw[hw' k hx,hr k (hX k hx).1.1 (fun hk=>(hX k hx).2 _ hm.mem hk.symm)]
theorem Loc.gave {w0 w w1:World}{L R:List LBlk}{D D' : List Datum}(h:Loc w0 w L D) (g:Loc w w1 R D'):Loc w0 w1 (L++R) (D'++D):=by
 have h1:=h.grow g.below
 refine⟨h1.below,?_,?_,?_,?_⟩
 ·rw[List.map_append,List.nodup_append]
  refine⟨h.nodup,g.nodup,fun a ha b hb' hab=>?_⟩
  subst hab
  obtain⟨e,he,hee⟩:=List.mem_map.1 ha
  obtain⟨e',he',hee'⟩:=List.mem_map.1 hb'
  have:=heap_lt (h.cells e he)
  have:=g.ids e' he'
  omega
 ·intro e he
  rcases List.mem_append.1 he with he|he
  ·exact h.ids e he
  ·exact Nat.le_trans h.size (g.ids e he)
 ·intro e he
  rcases List.mem_append.1 he with he|he
  ·exact h1.cells e he
  ·exact g.cells e he
 ·intro S hS
  rcases List.mem_append.1 hS with hS|hS
  ·obtain⟨X,hX,hO⟩:=g.data S hS
   refine⟨X,fun k hx=>⟨⟨(hX k hx).1.1,Nat.le_trans h.size (hX k hx).1.2⟩,fun e he=>?_⟩,hO⟩
   rcases List.mem_append.1 he with he|he
   ·have:=heap_lt (h.cells e he)
    have:=(hX k hx).1.2
    omega
   ·exact(hX k hx).2 e he
  ·obtain⟨X,hX,hO⟩:=h.data S hS
   refine⟨X,fun k hx=>⟨⟨Nat.lt_of_lt_of_le (hX k hx).1.1 g.below.size,(hX k hx).1.2⟩,fun e he=>?_⟩,fun w' hw'=>hO w' fun k hx=>?_⟩
   ·rcases List.mem_append.1 he with he|he
    ·exact(hX k hx).2 e he
    ·have:=g.ids e he
     have:=(hX k hx).1.1
     omega
   ·rw[hw' k hx,g.below.block _ (hX k hx).1.1]
theorem On.and {w:World}{X Y:Nat→Prop}{S T U:Datum}(h1:On w X S) (h2:On w Y T) (h:∀ w,S w→T w→U w):On w (fun b=>X b∨Y b) U:=
 fun w' hw'=>h w' (h1 w' fun b hb=>hw' b (.inl hb)) (h2 w' fun b hb=>hw' b (.inr hb))
theorem Loc.both {w0 w:World}{L:List LBlk}{D:List Datum}{S T U:Datum}(h:Loc w0 w L (S::T::D)) (hu:∀ w,S w→T w→U w):Loc w0 w L (U::D):=by
 refine⟨h.below,h.nodup,h.ids,h.cells,fun V hV=>?_⟩
 rcases List.mem_cons.1 hV with rfl|hV
 ·obtain⟨X,hX,h1⟩:=h.data S List.mem_cons_self
  obtain⟨Y,hY,h2⟩:=h.data T (List.mem_cons_of_mem _ List.mem_cons_self)
  refine⟨_,fun b hb=>?_,h1.and h2 hu⟩
  rcases hb with hb|hb
  ·exact hX b hb
  ·exact hY b hb
 ·exact h.data V (List.mem_cons_of_mem _ (List.mem_cons_of_mem _ hV))
theorem Loc.turn {w0 w:World}{L:List LBlk}{D:List Datum}{S U:Datum}(h:Loc w0 w L (S::D)) (hu:∀ w,S w→U w):Loc w0 w L (U::D):=by
 refine⟨h.below,h.nodup,h.ids,h.cells,fun V hV=>?_⟩
 rcases List.mem_cons.1 hV with rfl|hV
 ·obtain⟨X,hX,h1⟩:=h.data S List.mem_cons_self
  exact⟨X,hX,fun w' hw'=>hu w' (h1 w' hw')⟩
 ·exact h.data V (List.mem_cons_of_mem _ hV)
theorem Loc.pure {w0 w:World}{L:List LBlk}{D:List Datum}{S:Datum}(h:Loc w0 w L D) (hS:∀ w,S w):Loc w0 w L (S::D):=by
 refine⟨h.below,h.nodup,h.ids,h.cells,fun V hV=>?_⟩
 rcases List.mem_cons.1 hV with rfl|hV
 ·exact⟨fun _=>False,fun _ h=>h.elim,fun w' _=>hS w'⟩
 ·exact h.data V hV
theorem Loc.fact {w0 w:World}{K R:List LBlk}{D:List Datum}{S:Datum}(h:Loc w0 w (K++R) D) (hS:∀ w',(∀ e∈R,w'.heap[e.1]? = some (.cells e.2.2.toArray e.2.1 (0,0)))→S w'):Loc w0 w K (S::D):=by
 have h1:Loc w0 w K D:=h.drop (List.sublist_append_left _ _) (fun S hS=>hS)
 refine⟨h1.below,h1.nodup,h1.ids,h1.cells,fun V hV=>?_⟩
 rcases List.mem_cons.1 hV with rfl|hV
 ·refine⟨fun b=>∃ e∈R,e.1=b,fun b ⟨e,he,heb⟩=>?_,fun w' hw'=>hS w' fun e he=>?_⟩
  ·subst heb
   refine⟨⟨heap_lt (h.cells e (List.mem_append_right _ he)),h.ids e (List.mem_append_right _ he)⟩,fun e' he' hee=>?_⟩
   have hn:=h.nodup
   rw[List.map_append,List.nodup_append]at hn
   exact hn.2.2 e'.1 (List.mem_map.2 ⟨e',he',rfl⟩) e.1 (List.mem_map.2 ⟨e,he,rfl⟩) hee
  ·rw[hw' e.1 ⟨e,he,rfl⟩]
   exact h.cells e (List.mem_append_right _ he)
 ·exact h1.data V hV
theorem Loc.facts {w0 w:World}{K R:List LBlk}{D:List Datum}{S T:Datum}(h:Loc w0 w (K++R) (T::D)) (hS:∀ w',(∀ e∈R,w'.heap[e.1]? = some (.cells e.2.2.toArray e.2.1 (0,0)))→T w'→S w'):Loc w0 w K (S::D):=by
 have h1:Loc w0 w K ((fun w' : World=>∀ e∈R,w'.heap[e.1]? = some (.cells e.2.2.toArray e.2.1 (0,0)))::T::D):=h.fact (fun _ h=>h)
 exact h1.both hS
section
variable {P : Program} {ops : Array Oper} {Q : Exit → Act → World → Prop} {a : Act} {w0 w : World} {rest : List Oper} {L : List LBlk} {D : List Datum}
 {d:Option Tmp} {ty:TypeId} {pos:String} {after:Array Edge} {g:Option (Nat × Bool)}
theorem wpList_val {o:Oper}{v:Value}{w' : World}(hw:Region.wanted o (yielded ops a.tmps)=true) (hrun:(execOp a.eval o).run P w=.ok (.value v) w')
  (h:wpList P ops Q rest (a.put o.dst v) w'):wpList P ops Q (o::rest) a w:=
 wpList_step fun _ hK=>by rw[if_pos hw];unfold Oper.wp;rw[hrun];exact hK _ _ h
theorem wpList_unit {o:Oper}{w' : World}(hw:Region.wanted o (yielded ops a.tmps)=true) (hrun:(execOp a.eval o).run P w=.ok .skip w')
  (h:wpList P ops Q rest (a.put o.dst undef) w'):wpList P ops Q (o::rest) a w:=
 wpList_step fun _ hK=>by rw[if_pos hw];unfold Oper.wp;rw[hrun];exact hK _ _ h
theorem want0 {op:Op}{y:Nat→Option Bool}:Region.wanted ⟨d,op,ty,pos,after,none⟩ y=true:=rfl
theorem want1 {op:Op}{tmps:Array Value}{j:Nat}{b:Bool}{t:Tmp}(h1:(ops[j]?).bind (·.dst)=some t) (h2:tmps[t]? = some (.bool b)):
  Region.wanted ⟨d,op,ty,pos,after,some (j,b)⟩ (yielded ops tmps)=true:=by
 simp[Region.wanted,yielded,h1,h2]
structure CellT (P:Program) (T:TypeId):Prop where
 flat:(P.underlying T).map (fun d=>match d with|.struct _|.array _ _=>true|_=>false)=some false
 size:(P.info? T).map (·.size)=some 1
structure AggT (P:Program) (T:TypeId) (n:Nat):Prop where
 flat:(P.underlying T).map (fun d=>match d with|.struct _|.array _ _=>true|_=>false)=some true
 size:(P.info? T).map (·.size)=some n
structure ZeroT (P:Program) (T:TypeId) (cs:List Value):Prop where
 zero:((P.info? T).bind (·.zero)).map (fun z=>z.cells.toList)=some cs
structure SizeT (P:Program) (T:TypeId) (n:Nat):Prop where
 size:(P.info? T).map (·.size)=some n
theorem CellT.sz {P:Program}{T:TypeId}(h:CellT P T):SizeT P T 1:=⟨h.size⟩
theorem AggT.sz {P:Program}{T:TypeId}{n:Nat}(h:AggT P T n):SizeT P T n:=⟨h.size⟩
theorem run_isAgg_of {T:TypeId}{b:Bool}(h:(P.underlying T).map (fun d=>match d with|.struct _|.array _ _=>true|_=>false)=some b) (w:World):(isAgg T).run P w=.ok b w:=by
 cases hu:P.underlying T with
 | none=>simp[hu]at h
 | some d=>
  simp only[hu,Option.map_some,Option.some.injEq]at h
  unfold isAgg
  rw[Sem.run_bind,run_underlying hu w]
  cases d<;>simp_all
theorem run_sizeOf_of {T:TypeId}{n:Nat}(h:(P.info? T).map (·.size)=some n) (w:World):(sizeOf T).run P w=.ok n w:=by
 cases hi:P.info? T with
 | none=>simp[hi]at h
 | some i=>simp[hi]at h;simp[sizeOf,typeInfo,hi,h]
structure Reads (P:Program) (T:TypeId) (cs:List Value) (off:Nat) (v:Value):Prop where
 run:∀ (w:World) (b:Nat),(∀ j,w.cell? ⟨b,j,none⟩=cs[j]?)→(loadVar T ⟨b,off,none⟩).run P w=.ok v w
theorem add_addr (b off j:Nat):(⟨b,off,none⟩:Addr).add j=⟨b,off+j,none⟩:=by
 unfold Addr.add;split<;>simp_all
theorem Reads.cell {T:TypeId}(hT:CellT P T) {cs:List Value}{off:Nat}{v:Value}(hv:cs[off]? = some v):Reads P T cs off v:=⟨fun w b hc=>by
 have:w.cell? ⟨b,off,none⟩=some v:=by rw[hc,hv]
 simp[loadVar,Sem.run_bind,run_isAgg_of hT.flat,this]⟩
theorem Reads.agg {T:TypeId}{n:Nat}(hT:AggT P T n) {cs:List Value}{off:Nat}{l:List Value}(hl:(cs.drop off).take n=l) (hn:l.length=n):Reads P T cs off (.agg l.toArray):=⟨fun w b hc=>by
 have h1:(loadCells ⟨b,off,none⟩ l.length).run P w=.ok l.toArray w:=
  run_loadCells_list (P:=P) w ⟨b,off,none⟩ l (fun j v hv=>by
   rw[add_addr,hc,← hv,← hl,List.getElem?_take,List.getElem?_drop]
   have:j<n:=by rw[← hn];exact(List.getElem?_eq_some_iff.1 hv).1
   simp[this])
 rw[hn]at h1
 simp[loadVar,Sem.run_bind,run_isAgg_of hT.flat,run_sizeOf_of hT.size,h1]⟩
theorem loc_box {T:TypeId}{x:Operand}{cs:List Value}(hL:Loc w0 w L D) (hw:Region.wanted ⟨d,.box T x,ty,pos,after,g⟩ (yielded ops a.tmps)=true) (hx:(a.eval x).cells.toList=cs)
  (h:∀ b w',Loc w0 w' ((b,T,cs)::L) D→wpList P ops Q rest (a.put d (.pointer (some ⟨b,0,none⟩))) w'):wpList P ops Q (⟨d,.box T x,ty,pos,after,g⟩::rest) a w:=
 wpList_val (o:=⟨d,.box T x,ty,pos,after,g⟩) (w':=w.alloc (.cells cs.toArray T)) hw (by
  subst hx;simp[execOp,Instr.box,newVar,newRow]) (h _ _ (hL.box T cs))
theorem loc_alloc {T:TypeId}{cs:List Value}(hL:Loc w0 w L D) (hw:Region.wanted ⟨d,.alloc T,ty,pos,after,g⟩ (yielded ops a.tmps)=true) (hz:ZeroT P T cs)
  (h:∀ b w',Loc w0 w' ((b,T,cs)::L) D→wpList P ops Q rest (a.put d (.pointer (some ⟨b,0,none⟩))) w'):wpList P ops Q (⟨d,.alloc T,ty,pos,after,g⟩::rest) a w:=
 wpList_val (o:=⟨d,.alloc T,ty,pos,after,g⟩) (w':=w.alloc (.cells cs.toArray T)) hw (by
  replace hz:=hz.zero
  cases hi:P.info? T with
  | none=>simp[hi]at hz
  | some i=>
   cases hzz:i.zero with
   | none=>simp[hi,hzz]at hz
   | some z=>
    simp[hi,hzz]at hz
    simp[execOp,Instr.alloc,zeroValue,typeInfo,hi,hzz,newVar,newRow,← hz]) (h _ _ (hL.box T cs))
theorem loc_load {T:TypeId}{x:Operand}{b off:Nat}{Tb:TypeId}{cs:List Value}{f:List Value→List LBlk}{v:Value}(hL:Loc w0 w L D) (hw:Region.wanted ⟨d,.load T x,ty,pos,after,g⟩ (yielded ops a.tmps)=true)
  (hx:a.eval x=.pointer (some ⟨b,off,none⟩)) (hm:InL b Tb cs L f) (hv:Reads P T cs off v)
  (h:wpList P ops Q rest (a.put d v) w):wpList P ops Q (⟨d,.load T x,ty,pos,after,g⟩::rest) a w:=
 wpList_val (o:=⟨d,.load T x,ty,pos,after,g⟩) (w':=w) hw (by
  simp[execOp,Instr.loadAt,hx,Instr.sureAddr,hv.run w b (fun j=>hL.cell hm j)]) h
theorem loc_loadD {T:TypeId}{x:Operand}{b off:Nat}{Tb:TypeId}{cs:List Value}{v:Value}(hL:Loc w0 w L D) (hw:Region.wanted ⟨d,.load T x,ty,pos,after,g⟩ (yielded ops a.tmps)=true)
  (hx:a.eval x=.pointer (some ⟨b,off,none⟩)) (hm:HeapAt b Tb cs∈D) (hv:Reads P T cs off v)
  (h:wpList P ops Q rest (a.put d v) w):wpList P ops Q (⟨d,.load T x,ty,pos,after,g⟩::rest) a w:=
 wpList_val (o:=⟨d,.load T x,ty,pos,after,g⟩) (w':=w) hw (by
  have hh:w.heap[b]? = some (.cells cs.toArray Tb (0,0)):=hL.get hm
  simp[execOp,Instr.loadAt,hx,Instr.sureAddr,hv.run w b (fun j=>by simp[World.cell?,hh])]) h
structure ReadsAt (P:Program) (T:TypeId) (w:World) (b off:Nat) (v:Value):Prop where
 lt:b<w.heap.size
 run:∀ w' : World,(∀ j,w'.cell? ⟨b,j,none⟩=w.cell? ⟨b,j,none⟩)→(loadVar T ⟨b,off,none⟩).run P w'=.ok v w'
theorem ReadsAt.cell {T:TypeId}(hT:CellT P T) {b off:Nat}{v:Value}(hb:b<w.heap.size) (hv:w.cell? ⟨b,off,none⟩=some v):ReadsAt P T w b off v:=⟨hb,fun w' hc=>by
 have:w'.cell? ⟨b,off,none⟩=some v:=by rw[hc,hv]
 simp[loadVar,Sem.run_bind,run_isAgg_of hT.flat,this]⟩
theorem ReadsAt.agg {T:TypeId}{n:Nat}(hT:AggT P T n) {b off:Nat}{l:List Value}(hb:b<w.heap.size) (hv:∀ j v,l[j]? = some v→w.cell? ⟨b,off+j,none⟩=some v) (hn:l.length=n):ReadsAt P T w b off (.agg l.toArray):=⟨hb,fun w' hc=>by
 have h1:(loadCells ⟨b,off,none⟩ l.length).run P w'=.ok l.toArray w':=
  run_loadCells_list (P:=P) w' ⟨b,off,none⟩ l (fun j v hj=>by rw[add_addr,hc];exact hv j v hj)
 rw[hn]at h1
 simp[loadVar,Sem.run_bind,run_isAgg_of hT.flat,run_sizeOf_of hT.size,h1]⟩
theorem loc_loadB {T:TypeId}{x:Operand}{b off:Nat}{v:Value}(hr:ReadsAt P T w0 b off v) (hL:Loc w0 w L D) (hw:Region.wanted ⟨d,.load T x,ty,pos,after,g⟩ (yielded ops a.tmps)=true)
  (hx:a.eval x=.pointer (some ⟨b,off,none⟩))
  (h:wpList P ops Q rest (a.put d v) w):wpList P ops Q (⟨d,.load T x,ty,pos,after,g⟩::rest) a w:=
 wpList_val (o:=⟨d,.load T x,ty,pos,after,g⟩) (w':=w) hw (by
  simp[execOp,Instr.loadAt,hx,Instr.sureAddr,hr.run w (fun j=>hL.below.cell (p:=⟨b,j,none⟩) hr.lt)]) h
def spliced (cs:List Value) (off:Nat) (vs:List Value):List Value:=cs.take off++(vs++cs.drop (off+vs.length))
theorem spliced_cons (cs:List Value) (k:Nat) (v:Value) (vs:List Value) (h:k<cs.length):spliced (cs.set k v) (k+1) vs=spliced cs k (v::vs):=by
 unfold spliced
 have h1:(cs.set k v).take (k+1)=cs.take k++[v]:=by
  rw[List.take_add_one,List.take_set_of_le (Nat.le_refl _)]
  simp[h]
 rw[h1,List.drop_set_of_lt (by omega)]
 simp[show k+1+vs.length=k+(vs.length+1) from by omega]
theorem loc_store {T:TypeId}{x y:Operand}{b off:Nat}{Tb:TypeId}{cs vs cs' : List Value}{f:List Value→List LBlk}(hL:Loc w0 w L D) (hw:Region.wanted ⟨d,.store T x y,ty,pos,after,g⟩ (yielded ops a.tmps)=true)
  (hx:a.eval x=.pointer (some ⟨b,off,none⟩)) (hm:InL b Tb cs L f) (hy:(a.eval y).cells.toList=vs) (hT:SizeT P T vs.length) (h1:vs.all (·.oneCell')=true)
  (ho:off+vs.length≤cs.length) (hs:spliced cs off vs=cs')
  (h:∀ w',Loc w0 w' (f cs') D→wpList P ops Q rest (a.put d undef) w'):wpList P ops Q (⟨d,.store T x y,ty,pos,after,g⟩::rest) a w:=by
 have hp:=hL.heap hm
 obtain⟨w',hrun,hw1,hw2,hw3,hw4,hw5,hw6⟩:∃ w',(storeCells ⟨b,off,none⟩ vs 0).run P w=.ok () w'∧w'.os=w.os∧w'.tape=w.tape∧w'.output=w.output∧w'.heap.size=w.heap.size∧
   w'.heap[b]? = some (.cells cs'.toArray Tb (0,0))∧∀ k,k≠b→w'.heap[k]? = w.heap[k]? :=by
  have key:∀ (vs:List Value) (off i:Nat) (cs:List Value) (w:World),w.heap[b]? = some (.cells cs.toArray Tb (0,0))→vs.all (·.oneCell')=true→off+i+vs.length≤cs.length→
    ∃ w',(storeCells ⟨b,off,none⟩ vs i).run P w=.ok () w'∧w'.os=w.os∧w'.tape=w.tape∧w'.output=w.output∧w'.heap.size=w.heap.size∧
     w'.heap[b]? = some (.cells (spliced cs (off+i) vs).toArray Tb (0,0))∧∀ k,k≠b→w'.heap[k]? = w.heap[k]? :=by
   intro vs
   induction vs with
   | nil=>intro off i cs w hp _ _;exact⟨w,by simp[storeCells],rfl,rfl,rfl,rfl,by simpa [spliced] using hp,fun _ _=>rfl⟩
   | cons v vs ih=>
    intro off i cs w hp h1 ho
    simp only[List.all_cons,Bool.and_eq_true]at h1
    simp only[List.length_cons]at ho
    have hc:w.cell? ⟨b,off+i,none⟩=some (cs[off+i]'(by omega)):=by simp[World.cell?,hp]
    have hf:w.frozen? ⟨b,off+i,none⟩=false:=by simp[World.frozen?,hp]
    have hb:(w.setCell ⟨b,off+i,none⟩ v).heap[b]? = some (.cells (cs.set (off+i) v).toArray Tb (0,0)):=by
     simp[World.setCell,Array.getElem?_modify,hp]
    obtain⟨w',hr,e1,e2,e3,e4,e5,e6⟩:=ih off (i+1) (cs.set (off+i) v) (w.setCell ⟨b,off+i,none⟩ v) hb h1.2 (by simp;omega)
    refine⟨w',?_,e1,e2,e3,?_,?_,?_⟩
    ·rw[storeCells,Sem.run_bind,add_addr,run_store P w _ v .plain h1.1,hc]
     simp[hf,hr]
    ·rw[e4];simp
    ·rw[e5,← spliced_cons cs (off+i) v vs (by omega),show off+(i+1)=off+i+1 from by omega]
    ·intro k hk
     rw[e6 k hk,Below.heap_setCell _ _ _ _ hk]
  have:=key vs off 0 cs w hp h1 (by omega)
  simpa [hs] using this
 refine wpList_unit (o:=⟨d,.store T x y,ty,pos,after,g⟩) (w':=w') hw ?_ (h _ (hL.put hm cs' hw1 hw2 hw3 (Nat.le_of_eq hw4.symm) hw5 (fun k _ hk=>hw6 k hk)))
 have hsz:(a.eval y).cells.size=vs.length:=by rw[← hy];simp
 simp[execOp,Instr.storeAt,hx,Instr.sureAddr,storeVar,hsz,run_sizeOf_of hT.size,hy,hrun]
structure SliceT (P:Program) (T E:TypeId) (z:List Value):Prop where
 und:P.underlying T=some (.slice E)
 zero:ZeroT P E z
 size:SizeT P E z.length
theorem run_zero_of {E:TypeId}{z:List Value}(h:ZeroT P E z) (w:World):∃ v,(zeroValue E).run P w=.ok v w∧v.cells.toList=z:=by
 have hz:=h.zero
 cases hi:P.info? E with
 | none=>simp[hi]at hz
 | some i=>
  cases hzz:i.zero with
  | none=>simp[hi,hzz]at hz
  | some v=>
   simp[hi,hzz]at hz
   exact⟨v,by simp[zeroValue,typeInfo,hi,hzz],hz⟩
theorem put_cells (off:Nat):∀ (l:List Value) (j:Nat) (pre old post:List Value),pre.length=off+j→old.length=l.length→
  (l.zipIdx j).foldl (fun (cs:Array Value) (c:Value × Nat)=>cs.setIfInBounds (off+c.2) c.1) (pre++(old++post)).toArray=(pre++(l++post)).toArray
 | [],_,_,old,_,_,h=>by
  have:old=[]:=List.length_eq_zero_iff.1 (by simpa using h)
  subst this;rfl
 | x::l,j,pre,o::old,post,hp,h=>by
  rw[List.zipIdx_cons,List.foldl_cons]
  have e:(pre++(o::old++post)).toArray.setIfInBounds (off+j) x=((pre++[x])++(old++post)).toArray:=by
   rw[List.setIfInBounds_toArray]
   congr 1
   rw[← hp]
   simp
  show List.foldl _ ((pre++(o::old++post)).toArray.setIfInBounds (off+j) x) _=_
  rw[e,put_cells off l (j+1) (pre++[x]) old post (by simp;omega) (by simpa using h)]
  simp
 | _::_,_,_,[],_,_,h=>by simp at h
theorem fill_all (k:Nat):∀ (ps:List (Nat × Value)) (i:Nat) (pre rest:List Value),ps.map (·.1)=List.range' i ps.length→pre.length=i*k→rest.length=ps.length*k→(∀ p∈ps,p.2.cells.size=k)→
  Instr.fill (fun i=>some (i*k,k)) (pre++rest).toArray ps=some (pre++ps.flatMap (fun p=>p.2.cells.toList)).toArray
 | [],i,pre,rest,_,_,hr,_=>by
  have:rest=[]:=List.length_eq_zero_iff.1 (by simpa using hr)
  subst this;rfl
 | (i',v)::ps,i,pre,rest,hi,hp,hr,hs=>by
  have hv:v.cells.size=k:=hs _ List.mem_cons_self
  simp only[List.map_cons,List.length_cons,List.range'_succ,List.cons.injEq]at hi
  obtain⟨rfl,hi⟩:=hi
  have hk:k≤rest.length:=by rw[hr,List.length_cons];exact Nat.le_mul_of_pos_left _ (by omega)
  obtain⟨old,rest',rfl,ho⟩:∃ old rest',rest=old++rest'∧old.length=k:=⟨rest.take k,rest.drop k,(List.take_append_drop k rest).symm,by simp[hk]⟩
  have hr' : rest'.length=ps.length*k:=by
   simp only[List.length_append,List.length_cons,Nat.add_mul,Nat.one_mul,ho]at hr;omega
  have h1:¬ ((decide (v.cells.size≠k) || decide (i' * k+v.cells.size > (pre++(old++rest')).toArray.size))=true):=by
   simp[hv,hp,ho]
  have h2:=put_cells (i' * k) v.cells.toList 0 pre old rest' (by omega) (by simp[ho,hv])
  have h3:v.cells.zipIdx.foldl (fun (cs:Array Value) (x:Value × Nat)=>cs.setIfInBounds (i' * k+x.2) x.1) (pre++(old++rest')).toArray=(pre++(v.cells.toList++rest')).toArray:=by
   rw[← h2,← Array.foldl_toList];simp
  have h4:=fill_all k ps (i' + 1) (pre++v.cells.toList) rest' hi (by simp[hp,hv,Nat.add_mul]) hr' (fun p hp=>hs p (List.mem_cons_of_mem _ hp))
  have h5:Instr.fill (fun i=>some (i*k,k)) (pre++(v.cells.toList++rest')).toArray ps=some (pre++v.cells.toList++ps.flatMap (fun p=>p.2.cells.toList)).toArray:=by
   rw[← List.append_assoc];exact h4
  simp only[Instr.fill]
  rw[if_neg h1]
  rw[show (v.cells.zipIdx.foldl (fun cs (x:Value × Nat)=>match x with|(c,j)=>cs.setIfInBounds (i' * k+j) c) (pre++(old++rest')).toArray)=(pre++(v.cells.toList++rest')).toArray from h3,h5]
  simp
theorem loc_buildSlice {T E:TypeId}{n:Nat}{parts:Array (Nat × Operand)}{z cs:List Value}(hL:Loc w0 w L D) (hw:Region.wanted ⟨d,.buildSlice T n parts,ty,pos,after,g⟩ (yielded ops a.tmps)=true)
  (hT:SliceT P T E z) (hn:n*z.length≤16777216) (h0:n*z.length≠0) (hi:parts.toList.map (·.1)=List.range' 0 n)
  (hf:(parts.toList.map (fun p=>(a.eval p.2).cells.toList)).flatten=cs) (hs:(parts.toList.map (fun p=>(a.eval p.2).cells.size)).all (· == z.length)=true)
  (h:∀ b w',Loc w0 w' ((b,E,cs)::L) D→wpList P ops Q rest (a.put d (.slice (some ⟨b,0,none⟩) n n)) w'):wpList P ops Q (⟨d,.buildSlice T n parts,ty,pos,after,g⟩::rest) a w:=
 wpList_val (o:=⟨d,.buildSlice T n parts,ty,pos,after,g⟩) (w':=w.alloc (.cells cs.toArray E)) hw (by
  obtain⟨v,hv,hvz⟩:=run_zero_of hT.zero w
  have hva:v.cells=z.toArray:=by rw[← hvz]
  have h2:¬ (n*z.length > 2 ^ 24):=by omega
  have hlen:parts.size=n:=by have:=congrArg List.length hi;simpa using this
  have hfill:=fill_all z.length (parts.map fun (i,x)=>(i,a.eval x)).toList 0 [] ((Array.range (n*z.length)).map (fun j=>(z.toArray)[j % z.toArray.size]!)).toList
   (by simp only[Array.toList_map,List.map_map];rw[show ((fun x:Nat × Value=>x.1) ∘ fun x:Nat × Operand=>match x with|(i,x)=>(i,a.eval x))=(fun x=>x.1) from by funext x;rfl,hi];simp[hlen])
   (by simp) (by simp[hlen]) (by
    intro p hp
    simp only[Array.toList_map,List.mem_map]at hp
    obtain⟨q,hq,rfl⟩:=hp
    have:=List.all_eq_true.1 hs ((a.eval q.2).cells.size) (by simp only[List.mem_map];exact⟨q,hq,rfl⟩)
    simpa using this)
  have hcs:((parts.map fun (i,x)=>(i,a.eval x)).toList.flatMap fun p=>p.2.cells.toList)=cs:=by
   rw[← hf];simp[List.flatMap,List.map_map];rfl
  rw[hcs]at hfill
  simp only[List.nil_append,Array.toArray_toList]at hfill
  simp only[execOp,Instr.buildSlice,Sem.run_bind,run_underlying hT.und,Result.andThen_ok,run_sizeOf_of hT.size.size,if_neg h2,if_neg h0,Sem.run_pure,hv,hva,hfill]
  simp[newRow]) (h _ _ (hL.box E cs))
theorem rounds_go {c:Code}{n:Nat}(h:c.wp P (Exit.then (Code.rounds P c Q n) Q) a w):Code.rounds P c Q (n+1) a w:=h
def resF (tmps:Array Value):ResultVar→Sem Value:=fun
 | .tmp t=>pure (tmps.getD t undef)
 | .cell a t=>do loadVar t (← asAddr (tmps.getD a undef))
theorem results_eq (fn:Func) (tmps:Array Value):results fn tmps=(do let vs ← fn.results.mapM (resF tmps);pure (if h:vs.size=1 then vs[0] else .tuple vs)):=by
 unfold results
 have h:∀ (f:ResultVar→Sem Value),f=resF tmps→(do let vs ← fn.results.mapM f;pure (if h:vs.size=1 then vs[0] else .tuple vs):Sem Value)=(do let vs ← fn.results.mapM (resF tmps);pure (if h:vs.size=1 then vs[0] else .tuple vs)):=by
  intro f hf;rw[hf]
 exact h _ (by funext x;cases x<;>rfl)
structure ResV (P:Program) (w:World) (tmps:Array Value) (r:ResultVar) (v:Value):Prop where
 run:(resF tmps r).run P w=.ok v w
theorem resTmp {tmps:Array Value}{t:Tmp}{v:Value}(h:tmps[t]? = some v):ResV P w tmps (.tmp t) v:=⟨by simp[resF,h]⟩
theorem resCell {tmps:Array Value}{p:Tmp}{T:TypeId}{b:Nat}{Tb:TypeId}{cs:List Value}{f:List Value→List LBlk}{v:Value}(hL:Loc w0 w L D) (hp:tmps[p]? = some (.pointer (some ⟨b,0,none⟩)))
  (hm:InL b Tb cs L f) (hv:Reads P T cs 0 v):ResV P w tmps (.cell p T) v:=⟨by
 simp[resF,hp,asAddr,hv.run w b (fun j=>hL.cell hm j)]⟩
theorem ret1 {fn:Func}{R:Ending→World→Prop}{r:ResultVar}{v:Value}(hr:fn.results=#[r]) (h:ResV P w a.tmps r v) (hd:a.defers=[]) (hR:R (.returned v) w):bodyPost P fn R .ret a w:=
 bodyPost_ret (v:=v) (by rw[results_eq,hr];simp[h.run]) hd hR
theorem ret2 {fn:Func}{R:Ending→World→Prop}{r s:ResultVar}{v u:Value}(hr:fn.results=#[r,s]) (h:ResV P w a.tmps r v) (k:ResV P w a.tmps s u) (hd:a.defers=[]) (hR:R (.returned (.tuple #[v,u])) w):bodyPost P fn R .ret a w:=
 bodyPost_ret (v:=.tuple #[v,u]) (by rw[results_eq,hr];simp[h.run,k.run]) hd hR
theorem ret3 {fn:Func}{R:Ending→World→Prop}{r s t:ResultVar}{v u x:Value}(hr:fn.results=#[r,s,t]) (h:ResV P w a.tmps r v) (k:ResV P w a.tmps s u) (l:ResV P w a.tmps t x) (hd:a.defers=[]) (hR:R (.returned (.tuple #[v,u,x])) w):bodyPost P fn R .ret a w:=
 bodyPost_ret (v:=.tuple #[v,u,x]) (by rw[results_eq,hr];simp[h.run,k.run,l.run]) hd hR
end
end Go.Proofs.YtplcndmdkabmeaaGreatDoor
namespace Go.Proofs.YtplcndmdkabmeaaGreatDoor
open Go.RowKit
def RowL (E:TypeId) (size:Nat) (v:Value) (n:Nat) (xs:List Value) (R:List LBlk):Prop:=
 xs.length=n*size∧((v=.slice none 0 0∧n=0∧R=[])∨
  ∃ g cap cs,v=.slice (some ⟨g,0,none⟩) n cap∧R=[(g,E,cs)]∧n≤cap∧cap≤maxLen∧cs.length=cap*size∧cs.take (n*size)=xs)
theorem RowL.nil {E:TypeId}{size:Nat}:RowL E size (.slice none 0 0) 0 [] []:=⟨by simp,.inl ⟨rfl,rfl,rfl⟩⟩
inductive Split (R:List LBlk):List LBlk→List LBlk→Prop where
 | nil:Split R R []
 | cons {L K:List LBlk} (x:LBlk) (h:Split R L K):Split R (x::L) (x::K)
structure BytesT (P:Program) (T:TypeId) (n:Nat):Prop where
 bytes:(P.info? T).map (·.bytes)=some n
theorem Loc.perm {w0 w:World}{L L' D}(h:Loc w0 w L D) (hp:L'.Perm L):Loc w0 w L' D:=
 ⟨h.below,(hp.map _).nodup_iff.2 h.nodup,fun e he=>h.ids e (hp.mem_iff.1 he),fun e he=>h.cells e (hp.mem_iff.1 he),fun S hS=>by
  obtain⟨X,hX,hO⟩:=h.data S hS
  exact⟨X,fun b hx=>⟨(hX b hx).1,fun e he=>(hX b hx).2 e (hp.mem_iff.1 he)⟩,hO⟩⟩
theorem Loc.sub {w0 w:World}{L L' D}(h:Loc w0 w L D) (hn:(L'.map (·.1)).Nodup) (hs:∀ e∈L',e∈L):Loc w0 w L' D:=
 ⟨h.below,hn,fun e he=>h.ids e (hs e he),fun e he=>h.cells e (hs e he),fun S hS=>by
  obtain⟨X,hX,hO⟩:=h.data S hS
  exact⟨X,fun b hx=>⟨(hX b hx).1,fun e he=>(hX b hx).2 e (hs e he)⟩,hO⟩⟩
theorem below_of_grown {w w' : World}(h:w.grownBy w' none):Below w.heap.size w w':=
 ⟨h.os,h.tape,h.output,h.size,fun k hk=>h.block k hk (by simp)⟩
section
variable {P : Program} {ops : Array Oper} {Q : Exit → Act → World → Prop} {a : Act} {w0 w : World} {rest : List Oper} {L : List LBlk} {D : List Datum}
 {d:Option Tmp} {ty:TypeId} {pos:String} {after:Array Edge} {g:Option (Nat × Bool)}
theorem rowL_of_owns {base E size:Nat}{v:Value}{n:Nat}{xs:List Value}(h:w.ownsRow base E size v n xs):
  ∃ R,RowL E size v n xs R∧(∀ e∈R,base≤e.1∧w.heap[e.1]? = some (.cells e.2.2.toArray e.2.1 (0,0)))∧(R.map (·.1)).Nodup:=by
 obtain⟨h1,h2⟩:=h
 rcases h2 with⟨hv,hn⟩|⟨g,cap,cur,hv,hb,hg,hn,hc,hcs,ht⟩
 ·exact⟨[],⟨h1,.inl ⟨hv,hn,rfl⟩⟩,by simp,by simp⟩
 ·refine⟨[(g,E,cur.toList)],⟨h1,.inr ⟨g,cap,cur.toList,hv,rfl,hn,hc,by simpa using hcs,ht⟩⟩,fun e he=>?_,by simp⟩
  rw[List.mem_singleton.1 he]
  exact⟨hb,by simpa using hg⟩
theorem run_append_row {E t ty:TypeId}{z:List Value}{bytes:Nat}{K R:List LBlk}(hL:Loc w0 w (K++R) D) (hT:SliceT P t E z) (hby:BytesT P E bytes) (hz:0<z.length)
  {v:Value} {n:Nat} {xs:List Value} (hR:RowL E z.length v n xs R) {ad:Addr} {m c:Nat} {news:List Value} (hl:news.length=m*z.length)
  (hnews:∀ j u,news[j]? = some u→w.cell? (ad.add j)=some u) (h1:∀ u∈news,u.oneCell'=true) (h63:n+m≤maxLen) (hbytes:(n+m)*bytes≤140737488355328):
  ∃ v' w' R',(Builtin.append_ #[t,t] ty #[v,.slice (some ad) m c]).run P w=.ok v' w'∧RowL E z.length v' (n+m) (xs++news) R'∧Loc w0 w' (K++R') D:=by
 obtain⟨zv,hzv,hzc⟩:=run_zero_of hT.zero w
 obtain⟨i,hi⟩:∃ i,P.info? E=some i:=by
  have:=hby.bytes
  cases hi:P.info? E with
  | none=>simp[hi]at this
  | some i=>exact⟨i,rfl⟩
 have hib:i.bytes=bytes:=by have:=hby.bytes;simpa [hi] using this
 have his:i.size=z.length:=by have:=hT.size.size;simpa [hi] using this
 obtain⟨zv',hz1,hz2⟩:∃ zv,i.zero=some zv∧zv.cells.toList=z:=by
  have:=hT.zero.zero
  cases hzz:i.zero with
  | none=>simp[hi,hzz]at this
  | some zv=>exact⟨zv,rfl,by simpa [hi,hzz] using this⟩
 have hzs:zv'.cells.size=z.length:=by rw[← hz2];simp
 have fresh:∀ v' w',w'.ownsRow w.heap.size E z.length v' (n+m) (xs++news)→w.grownBy w' none→∃ R',RowL E z.length v' (n+m) (xs++news) R'∧Loc w0 w' (K++R') D:=by
  intro v' w' ho hg
  obtain⟨R',h2,h3,_⟩:=rowL_of_owns ho
  refine⟨R',h2,?_⟩
  have hb:=below_of_grown hg
  have hLK:Loc w0 w K D:=hL.drop (List.sublist_append_left K R) (fun _ h=>h)
  rcases h2.2 with⟨_,_,hr⟩|⟨g',cap',cs',_,hr,_⟩
  ·subst hr;rw[List.append_nil];exact hLK.grow hb
  ·subst hr
   have h4:=h3 _ List.mem_cons_self
   exact(hLK.gain hb h4.1 h4.2).perm (List.perm_append_comm)
 obtain⟨hx,hR2⟩:=hR
 rcases hR2 with⟨hv,hn,hr⟩|⟨g,cap,cs,hv,hr,hnc,hcm,hcs,htake⟩
 ·subst hv;subst hn;subst hr
  have hown:w.ownsRow w.heap.size E z.length (.slice none 0 0) 0 xs:=⟨hx,.inl ⟨rfl,rfl⟩⟩
  obtain⟨v',w',h2,h3,h4,_⟩:=run_append_own (P:=P) w w.heap.size t ty E i zv' z.length bytes hT.und hi hz1 his hib hzs hz _ 0 xs hown ad m c news hl hnews h1 h63 hbytes (Nat.le_refl _)
  obtain⟨R',h5,h6⟩:=fresh v' w' h3 h4
  exact⟨v',w',R',h2,h5,h6⟩
 ·subst hv;subst hr
  have hg:w.heap[g]? = some (.cells cs.toArray E (0,0)):=hL.cells (g,E,cs) (by simp)
  have hown:w.ownsRow 0 E z.length (.slice (some ⟨g,0,none⟩) n cap) n xs:=⟨hx,.inr ⟨g,cap,cs.toArray,rfl,Nat.zero_le _,hg,hnc,hcm,by simpa using hcs,by simpa using htake⟩⟩
  by_cases hroom:n+m≤cap
  ·obtain⟨w',h2,h3,h4⟩:=run_append_fits (P:=P) w 0 t ty E i z.length hT.und hi his g n cap xs hown ad m c news hl hnews h1 hroom
   obtain⟨R',h5,h6,_⟩:=rowL_of_owns h3
   refine⟨_,w',R',h2,h5,?_⟩
   rcases h5.2 with⟨hv,_⟩|⟨g',cap',cs',hv,hr,_⟩
   ·simp at hv
   ·simp only[Value.slice.injEq,Option.some.injEq,Addr.mk.injEq,and_true,true_and]at hv
    obtain⟨rfl,_⟩:=hv
    subst hr
    have h7:=(h6 _ List.mem_cons_self).2
    have hp:Loc w0 w ((g,E,cs)::K) D:=hL.perm (by simpa using (List.perm_append_comm (l₁:=[(g,E,cs)]) (l₂:=K)))
    exact(hp.put (f:=fun c=>(g,E,c)::K) .head cs' h4.os h4.tape h4.output h4.size h7 (fun k hk hne=>h4.block k hk (by simp[hne]))).perm (List.perm_append_comm)
  ·have holds:∀ j u,xs[j]? = some u→w.cell? ((⟨g,0,none⟩:Addr).add j)=some u:=fun j u hj=>by
    rw[add_addr,Nat.zero_add]
    have:cs[j]? = some u:=by
     rw[← htake]at hj
     rw[List.getElem?_take]at hj
     split at hj
     ·exact hj
     ·cases hj
    simp[World.cell?,hg,this]
   obtain⟨v',w',h2,h3,h4⟩:=run_append_arg_grows (P:=P) w t ty E i zv' z.length bytes hT.und hi hz1 his hib hzs hz ⟨g,0,none⟩ n cap xs hx holds ad m c news hl hnews (by omega) h63 hbytes
   obtain⟨R',h5,h6⟩:=fresh v' w' h3 h4
   exact⟨v',w',R',h2,h5,h6⟩
end
end Go.Proofs.YtplcndmdkabmeaaGreatDoor
namespace Go.Proofs.YtplcndmdkabmeaaGreatDoor
open Go.RowKit
def RowS (E:TypeId) (size:Nat) (p:Option Addr) (n cap:Nat) (xs:List Value) (R:List LBlk):Prop:=
 xs.length=n*size∧((n=0∧cap=0∧R=[])∨
  ∃ g cs,p=some ⟨g,0,none⟩∧R=[(g,E,cs)]∧n≤cap∧cap≤maxLen∧cs.length=cap*size∧cs.take (n*size)=xs)
theorem RowS.nil {E:TypeId}{size:Nat}{p:Option Addr}:RowS E size p 0 0 [] []:=⟨by simp,.inl ⟨rfl,rfl,rfl⟩⟩
theorem RowS.fits {E:TypeId}{size:Nat}{p:Option Addr}{n cap:Nat}{xs:List Value}{R:List LBlk}(h:RowS E size p n cap xs R):n≤cap:=by
 rcases h.2 with⟨h1,h2,_⟩|⟨g,cs,_,_,h1,_⟩<;>omega
theorem RowS.ofL {E:TypeId}{size:Nat}{v:Value}{n:Nat}{xs:List Value}{R:List LBlk}(h:RowL E size v n xs R):∃ p cap,v=.slice p n cap∧RowS E size p n cap xs R:=by
 obtain⟨h1,h2⟩:=h
 rcases h2 with⟨rfl,rfl,rfl⟩|⟨g,cap,cs,rfl,rfl,h3,h4,h5,h6⟩
 ·exact⟨none,0,rfl,h1,.inl ⟨rfl,rfl,rfl⟩⟩
 ·exact⟨_,cap,rfl,h1,.inr ⟨g,cs,rfl,rfl,h3,h4,h5,h6⟩⟩
theorem RowS.full {E:TypeId}{size b n:Nat}{xs:List Value}(hl:xs.length=n*size) (hn:n≤maxLen):RowS E size (some ⟨b,0,none⟩) n n xs [(b,E,xs)]:=
 ⟨hl,.inr ⟨b,xs,rfl,rfl,Nat.le_refl _,hn,hl,by rw[← hl,List.take_length]⟩⟩
structure Own (B:Nat) (w:World) (R:List LBlk):Prop where
 nodup:(R.map (·.1)).Nodup
 at' : ∀ e∈R,B≤e.1∧w.heap[e.1]? = some (.cells e.2.2.toArray e.2.1 (0,0))
theorem Own.nil {B:Nat}{w:World}:Own B w []:=⟨by simp,by simp⟩
theorem Own.grow {B:Nat}{w w' : World}{R:List LBlk}(h:Own B w R) (hb:Below w.heap.size w w'):Own B w' R:=
 ⟨h.nodup,fun e he=>⟨(h.at' e he).1,by rw[hb.block _ (heap_lt (h.at' e he).2)];exact(h.at' e he).2⟩⟩
theorem Own.mono {B B' : Nat}{w:World}{R:List LBlk}(h:Own B w R) (hB:B'≤B):Own B' w R:=
 ⟨h.nodup,fun e he=>⟨Nat.le_trans hB (h.at' e he).1,(h.at' e he).2⟩⟩
theorem Own.sub {B:Nat}{w:World}{R R' : List LBlk}(h:Own B w R) (hs:R'.Sublist R):Own B w R':=
 ⟨(hs.map _).nodup h.nodup,fun e he=>h.at' e (hs.subset he)⟩
theorem Loc.own {w0 w:World}{L:List LBlk}{D:List Datum}(h:Loc w0 w L D):Own w0.heap.size w L:=⟨h.nodup,fun e he=>⟨h.ids e he,h.cells e he⟩⟩
theorem Loc.ownOf {w0 w:World}{L:List LBlk}{D:List Datum}(h:Loc w0 w L D) {R:List LBlk}(hR:R.Sublist L):Own w0.heap.size w R:=h.own.sub hR
theorem Loc.gainOwn {w0 w w1:World}{L:List LBlk}{D:List Datum}{R:List LBlk}(h:Loc w0 w L D) (hb:Below w.heap.size w w1) (ho:Own w.heap.size w1 R):Loc w0 w1 (R++L) D:=by
 have h1:=h.grow hb
 refine⟨h1.below,?_,?_,?_,?_⟩
 ·rw[List.map_append,List.nodup_append]
  refine⟨ho.nodup,h.nodup,fun a ha b hb' hab=>?_⟩
  subst hab
  obtain⟨e,he,hee⟩:=List.mem_map.1 ha
  obtain⟨e',he',hee'⟩:=List.mem_map.1 hb'
  have:=heap_lt (h.cells e' he')
  have:=(ho.at' e he).1
  omega
 ·intro e he
  rcases List.mem_append.1 he with he|he
  ·exact Nat.le_trans h.size (ho.at' e he).1
  ·exact h.ids e he
 ·intro e he
  rcases List.mem_append.1 he with he|he
  ·exact(ho.at' e he).2
  ·exact h1.cells e he
 ·intro S hS
  obtain⟨X,hX,hO⟩:=h.data S hS
  refine⟨X,fun k hx=>⟨⟨Nat.lt_of_lt_of_le (hX k hx).1.1 hb.size,(hX k hx).1.2⟩,fun e he=>?_⟩,fun w' hw'=>hO w' fun k hx=>?_⟩
  ·rcases List.mem_append.1 he with he|he
   ·have:=(hX k hx).1.1
    have:=(ho.at' e he).1
    omega
   ·exact(hX k hx).2 e he
  ·rw[hw' k hx,hb.block _ (hX k hx).1.1]
theorem Loc.gainTail {w0 w w1:World}{L:List LBlk}{D:List Datum}{R:List LBlk}(h:Loc w0 w L D) (hb:Below w.heap.size w w1) (ho:Own w.heap.size w1 R):Loc w0 w1 (L++R) D:=
 (h.gainOwn hb ho).perm List.perm_append_comm
theorem Loc.gainMid {w0 w w1:World}{L K R N:List LBlk}{D:List Datum}(h:Loc w0 w L D) (hK:L=K++R) (hb:Below w.heap.size w w1) (ho:Own w.heap.size w1 N):Loc w0 w1 (K++(N++R)) D:=by
 subst hK
 refine(h.gainOwn hb ho).perm ?_
 rw[← List.append_assoc,← List.append_assoc]
 exact List.perm_append_comm.append_right R
theorem Own.perm {B:Nat}{w:World}{R R' : List LBlk}(h:Own B w R) (hp:R'.Perm R):Own B w R':=
 ⟨(hp.map _).nodup_iff.2 h.nodup,fun e he=>h.at' e (hp.mem_iff.1 he)⟩
section
variable {P : Program} {ops : Array Oper} {Q : Exit → Act → World → Prop} {a : Act} {w0 w : World} {rest : List Oper} {L : List LBlk} {D : List Datum}
 {d:Option Tmp} {ty:TypeId} {pos:String} {after:Array Edge} {g:Option (Nat × Bool)}
theorem run_append_zero {t ty E:TypeId}{z:List Value}(hT:SliceT P t E z) {p q:Option Addr}{n cap c:Nat}(hn:n≤cap) (w:World):
  (Builtin.append_ #[t,t] ty #[.slice p n cap,.slice q 0 c]).run P w=.ok (.slice p n cap) w:=by
 cases p<;>cases q<;>
 ·unfold Builtin.append_
  simp[Sem.run_bind,run_underlying hT.und,run_sizeOf_of hT.size.size,Builtin.lenOf,Builtin.firstCells,loadCells,loadCellsFrom,storeCells,hn,Array.mapM]
theorem run_append_s {E t ty:TypeId}{z:List Value}{bytes:Nat}{K R:List LBlk}(hL:Loc w0 w (K++R) D) (hT:SliceT P t E z) (hby:BytesT P E bytes) (hz:0<z.length)
  {p:Option Addr} {n cap:Nat} {xs:List Value} (hR:RowS E z.length p n cap xs R) {q:Option Addr} {m c:Nat} {news:List Value} (hl:news.length=m*z.length)
  (hnews:0<m→∃ ad,q=some ad∧∀ j u,news[j]? = some u→w.cell? (ad.add j)=some u) (h1:∀ u∈news,u.oneCell'=true) (h63:n+m≤maxLen) (hbytes:(n+m)*bytes≤140737488355328):
  ∃ p' cap' w' R',(Builtin.append_ #[t,t] ty #[.slice p n cap,.slice q m c]).run P w=.ok (.slice p' (n+m) cap') w'∧RowS E z.length p' (n+m) cap' (xs++news) R'∧Loc w0 w' (K++R') D:=by
 rcases Nat.eq_zero_or_pos m with rfl|hm
 ·have hnil:news=[]:=List.length_eq_zero_iff.1 (by simpa using hl)
  subst hnil
  exact⟨p,cap,w,R,run_append_zero hT hR.fits w,by simpa using hR,hL⟩
 obtain⟨ad,rfl,hn2⟩:=hnews hm
 obtain⟨hx,hR2⟩:=hR
 rcases hR2 with⟨rfl,rfl,rfl⟩|⟨g,cs,rfl,rfl,hnc,hcm,hcs,htake⟩
 · -- an empty slice
  have hxs:xs=[]:=List.length_eq_zero_iff.1 (by simpa using hx)
  subst hxs
  cases p with
  | none=>
   obtain⟨v',w',R',h2,h3,h4⟩:=run_append_row (P:=P) (ty:=ty) hL hT hby hz RowL.nil hl hn2 h1 h63 hbytes
   obtain⟨p',cap',rfl,h5⟩:=RowS.ofL h3
   exact⟨p',cap',w',R',h2,h5,h4⟩
  | some b=>
   obtain⟨zv,hzv,hzc⟩:=run_zero_of hT.zero w
   obtain⟨i,hi⟩:∃ i,P.info? E=some i:=by
    have:=hby.bytes
    cases hi:P.info? E with
    | none=>simp[hi]at this
    | some i=>exact⟨i,rfl⟩
   have hib:i.bytes=bytes:=by have:=hby.bytes;simpa [hi] using this
   have his:i.size=z.length:=by have:=hT.size.size;simpa [hi] using this
   obtain⟨zv',hz1,hz2⟩:∃ zv,i.zero=some zv∧zv.cells.toList=z:=by
    have:=hT.zero.zero
    cases hzz:i.zero with
    | none=>simp[hi,hzz]at this
    | some zv=>exact⟨zv,rfl,by simpa [hi,hzz] using this⟩
   have hzs:zv'.cells.size=z.length:=by rw[← hz2];simp
   obtain⟨v',w',h2,h3,h4⟩:=run_append_arg_grows (P:=P) w t ty E i zv' z.length bytes hT.und hi hz1 his hib hzs hz b 0 0 [] hx (fun j u hj=>by simp at hj) ad m c news hl hn2 (by omega) h63 hbytes
   obtain⟨R',h5,h6,_⟩:=rowL_of_owns h3
   have hb:=below_of_grown h4
   have hLK:Loc w0 w K D:=by simpa using hL
   have h7:Loc w0 w' (K++R') D:=by
    rcases h5.2 with⟨_,_,hr⟩|⟨g',cap',cs',_,hr,_⟩
    ·subst hr;rw[List.append_nil];exact hLK.grow hb
    ·subst hr
     have h8:=h6 _ List.mem_cons_self
     exact(hLK.gain hb h8.1 h8.2).perm (List.perm_append_comm)
   obtain⟨p',cap',rfl,h9⟩:=RowS.ofL h5
   exact⟨p',cap',w',R',h2,h9,h7⟩
 ·have hrow:RowL E z.length (.slice (some ⟨g,0,none⟩) n cap) n xs [(g,E,cs)]:=⟨hx,.inr ⟨g,cap,cs,rfl,rfl,hnc,hcm,hcs,htake⟩⟩
  obtain⟨v',w',R',h2,h3,h4⟩:=run_append_row (P:=P) (ty:=ty) hL hT hby hz hrow hl hn2 h1 h63 hbytes
  obtain⟨p',cap',rfl,h5⟩:=RowS.ofL h3
  exact⟨p',cap',w',R',h2,h5,h4⟩
theorem loc_appendS {s x:Operand}{E t:TypeId}{z:List Value}{bytes:Nat}{K R:List LBlk}{p:Option Addr}{n cap:Nat}{xs:List Value}(hR:RowS E z.length p n cap xs R) (hL:Loc w0 w L D) (hK:L=K++R)
  (hw:Region.wanted ⟨d,.call { callee:=.builtin .append,args:=#[s,x],argTypes:=#[t,t] },ty,pos,after,g⟩ (yielded ops a.tmps)=true) (hs:a.eval s=.slice p n cap) (hT:SliceT P t E z) (hby:BytesT P E bytes) (hz:0<z.length)
  {q:Option Addr} {m c:Nat} {news:List Value} (hx:a.eval x=.slice q m c) (hnews:0<m→∃ ad,q=some ad∧∀ j u,news[j]? = some u→w.cell? (ad.add j)=some u) (hl:news.length=m*z.length)
  (h1:∀ u∈news,u.oneCell'=true) (h63:n+m≤maxLen) (hbytes:(n+m)*bytes≤140737488355328)
  (h:∀ p' cap' R' w',RowS E z.length p' (n+m) cap' (xs++news) R'→Loc w0 w' (K++R') D→wpList P ops Q rest (a.put d (.slice p' (n+m) cap')) w'):
  wpList P ops Q (⟨d,.call { callee:=.builtin .append,args:=#[s,x],argTypes:=#[t,t] },ty,pos,after,g⟩::rest) a w:=by
 subst hK
 obtain⟨p',cap',w',R',h2,h3,h4⟩:=run_append_s (P:=P) (ty:=ty) hL hT hby hz hR hl hnews h1 h63 hbytes
 refine wpList_val (o:=⟨d,.call { callee:=.builtin .append,args:=#[s,x],argTypes:=#[t,t] },ty,pos,after,g⟩) (v:=.slice p' (n+m) cap') (w':=w') hw ?_ (h p' cap' R' w' h3 h4)
 unfold execOp
 simp only[resolve,invoke,builtin,Sem.run_bind,Sem.run_pure,Result.andThen_ok,List.map_toArray,List.map_cons,List.map_nil,hs,hx]
 rw[h2];rfl
theorem loc_build0 {T E:TypeId}{z:List Value}(hL:Loc w0 w L D) (hw:Region.wanted ⟨d,.buildSlice T 0 #[],ty,pos,after,g⟩ (yielded ops a.tmps)=true) (hT:SliceT P T E z)
  (h:∀ p w',Loc w0 w' L D→wpList P ops Q rest (a.put d (.slice p 0 0)) w'):wpList P ops Q (⟨d,.buildSlice T 0 #[],ty,pos,after,g⟩::rest) a w:=
 wpList_val (o:=⟨d,.buildSlice T 0 #[],ty,pos,after,g⟩) (v:=.slice (some ⟨w.heap.size,0,none⟩) 0 0) (w':=w.alloc (.cells #[] E)) hw (by
  simp[execOp,Instr.buildSlice,Sem.run_bind,run_underlying hT.und,run_sizeOf_of hT.size.size,Instr.fill,newRow];rw[show Array.range 0=#[] by decide];simp) (h _ _ (hL.grow ((Below.refl _ _).alloc (Nat.le_refl _) _)))
theorem made_flat (z:List Value):∀ n:Nat,(madeCells z.toArray (n*z.length)).toList=(List.replicate n z).flatten
 | 0=>by simp[madeCells]
 | n+1=>by
  have ih:=made_flat z n
  rw[List.replicate_succ',List.flatten_append,← ih]
  simp only[madeCells,Array.toList_map,Array.toList_range,List.flatten_cons,List.flatten_nil,List.append_nil]
  rw[Nat.add_mul,Nat.one_mul,List.range_add,List.map_append,List.map_map]
  congr 1
  apply List.ext_getElem?
  intro j
  by_cases hj:j<z.length
  ·rw[List.getElem?_map,List.getElem?_range hj]
   have:(n*z.length+j) % z.length=j:=by rw[Nat.mul_comm,Nat.mul_add_mod];exact Nat.mod_eq_of_lt hj
   simp[this,hj]
  ·rw[List.getElem?_eq_none (by simpa using hj),List.getElem?_eq_none (by omega)]
theorem loc_make {T E:TypeId}{z:List Value}{bytes n:Nat}{l c:Operand}{kl kc:IntKind}(hL:Loc w0 w L D) (hw:Region.wanted ⟨d,.makeSlice T l c,ty,pos,after,g⟩ (yielded ops a.tmps)=true) (hT:SliceT P T E z) (hby:BytesT P E bytes)
  (hl:a.eval l=.int kl (n:Int)) (hc:a.eval c=.int kc (n:Int)) (hb:bytes*n≤281474976710656) (h63:n≤9223372036854775807)
  (h:∀ b w',Loc w0 w' ((b,E,(List.replicate n z).flatten)::L) D→wpList P ops Q rest (a.put d (.slice (some ⟨b,0,none⟩) n n)) w'):wpList P ops Q (⟨d,.makeSlice T l c,ty,pos,after,g⟩::rest) a w:=by
 obtain⟨i,hi⟩:∃ i,P.info? E=some i:=by
  have:=hby.bytes
  cases hi:P.info? E with
  | none=>simp[hi]at this
  | some i=>exact⟨i,rfl⟩
 have hib:i.bytes=bytes:=by have:=hby.bytes;simpa [hi] using this
 have his:i.size=z.length:=by have:=hT.size.size;simpa [hi] using this
 obtain⟨zv',hz1,hz2⟩:∃ zv,i.zero=some zv∧zv.cells.toList=z:=by
  have:=hT.zero.zero
  cases hzz:i.zero with
  | none=>simp[hi,hzz]at this
  | some zv=>exact⟨zv,rfl,by simpa [hi,hzz] using this⟩
 have hbi : (i.bytes : Int) * (n : Int) ≤ 281474976710656 := by rw [hib]; have : ((bytes * n : Nat) : Int) ≤ 281474976710656 := by omega
                                                                rwa [Int.natCast_mul]at this
 have hr:=run_make (P:=P) w T E i zv' hT.und hi hz1 kl kc n n (by omega) (Int.le_refl _) hbi (by omega)
 have hza:zv'.cells=z.toArray:=by rw[← hz2]
 rw[hza,his]at hr
 have hf:=made_flat z n
 have hf2:madeCells z.toArray (n*z.length)=((List.replicate n z).flatten).toArray:=by rw[← hf]
 simp only[Int.toNat_natCast]at hr
 rw[hf2]at hr
 exact wpList_val (o:=⟨d,.makeSlice T l c,ty,pos,after,g⟩) hw (by simp[execOp,hl,hc,hr]) (h _ _ (hL.box E _))
def EmptyR:Value→World→Prop:=fun v _=>∃ p,v=.slice p 0 0
theorem EmptyR.stable:∀ v w w',Below w.heap.size w w'→EmptyR v w→EmptyR v w':=fun _ _ _ _ h=>h
end
end Go.Proofs.YtplcndmdkabmeaaGreatDoor
namespace Go.Proofs.YtplcndmdkabmeaaGreatDoor
open Go.RowKit
def fillD (t:List Value) (ds:List Nat) (g:Nat→Value):List Value:=ds.foldl (fun t d=>t.set d (g d)) t
def upd (g:Nat→Value) (d:Nat) (v:Value):Nat→Value:=fun k=>if k=d then v else g k
theorem fillD_get (g:Nat→Value) (k:Nat):∀ (ds:List Nat) (t:List Value),(fillD t ds g)[k]? = if k∈ds∧k<t.length then some (g k) else t[k]?
 | [],t=>by simp[fillD]
 | d::ds,t=>by
  show (fillD (t.set d (g d)) ds g)[k]? = _
  rw[fillD_get g k ds]
  by_cases hk:k∈ds
  ·by_cases hl:k<t.length
   ·simp[hk,hl]
   ·simp[hk,hl,List.getElem?_set]
    try (intro h;subst h;omega)
  ·by_cases hd:k=d
   ·subst hd
    by_cases hl:k<t.length<;>simp[hk,hl,List.getElem?_set]
   ·simp[hk,hd,List.getElem?_set,Ne.symm hd]
theorem fillD_len (g:Nat→Value):∀ (ds:List Nat) (t:List Value),(fillD t ds g).length=t.length
 | [],_=>rfl
 | d::ds,t=>by show (fillD (t.set d (g d)) ds g).length=_;rw[fillD_len g ds];simp
theorem fillD_set {t:List Value}{ds:List Nat}{g:Nat→Value}{d:Nat}(hd:d∈ds) (v:Value):(fillD t ds g).set d v=fillD t ds (upd g d v):=by
 apply List.ext_getElem?
 intro k
 rw[List.getElem?_set,fillD_get,fillD_get,fillD_len]
 by_cases hk:d=k
 ·subst hk
  by_cases hl:d<t.length<;>simp[hd,hl,upd]
 ·have hk' : ¬ k=d:=fun h=>hk h.symm
  simp[hk,upd,hk']
theorem fillD_self (t:List Value) (ds:List Nat):fillD t ds (fun d=>t.getD d undef)=t:=by
 apply List.ext_getElem?
 intro k
 rw[fillD_get]
 by_cases h:k∈ds∧k<t.length
 ·simp[h]
 ·rw[if_neg h]
def RAt (Rs:List (Value→World→Prop)) (ds:List Nat) (j:Nat) (g:Nat→Value) (w:World):Prop:=
 match Rs[j]?,ds[j]? with
 | some R,some d=>R (g d) w
 | _,_=>True
def depsOf (o:Oper):List Nat:=(o.after.toList.filter (Region.binds .any)).map (·.on)
def DrawPost (a0:Act) (d:Nat) (w:World) (R:Value→World→Prop):Exit→Act→World→Prop:=fun e a' w'=>
 e=.normal∧∃ v,a'=a0.put (some d) v∧Below w.heap.size w w'∧R v w'
def Unturned (ops:Array Oper) (t:List Value) (ds:List Nat) (i:Nat) (g:Nat→Value):Prop:=
 ∀ (j:Nat) (oj:Oper) (d:Nat),ops[j]? = some oj→i∈depsOf oj→ds[j]? = some d→g d=t.getD d undef
def Stable (R:Value→World→Prop):Prop:=∀ v w w',Below w.heap.size w w'→R v w→R v w'
structure Drawn (P:Program) (ops:Array Oper) (t:List Value) (df:List Deferred) (ds:List Nat) (w1:World) (Rs:List (Value→World→Prop)):Prop where
 short:Rs.length≤ds.length
 stable:∀ R∈Rs,Stable R
 ok:∀ (i:Nat) (o:Oper) (d:Nat) (R:Value→World→Prop),ops[i]? = some o→ds[i]? = some d→Rs[i]? = some R→∀ g w,Below w1.heap.size w1 w→(∀ j∈depsOf o,RAt Rs ds j g w)→Unturned ops t ds i g→
  wpList P ops (DrawPost ⟨(fillD t ds g).toArray,df⟩ d w R) [o] ⟨(fillD t ds g).toArray,df⟩ w
theorem Drawn.nil {P:Program}{ops:Array Oper}{t:List Value}{df:List Deferred}{ds:List Nat}{w1:World}:Drawn P ops t df ds w1 []:=
 ⟨Nat.zero_le _,fun _ h=>(by cases h),fun i o d R _ _ h=>(by simp at h)⟩
theorem RAt.pre {Rs:List (Value→World→Prop)}{R:Value→World→Prop}{ds:List Nat}{j:Nat}{g:Nat→Value}{w:World}(h:RAt (Rs++[R]) ds j g w):RAt Rs ds j g w:=by
 unfold RAt at *
 rcases Nat.lt_or_ge j Rs.length with hj|hj
 ·rw[List.getElem?_append_left hj]at h;exact h
 ·rw[List.getElem?_eq_none hj];trivial
theorem Drawn.step {P:Program}{ops:Array Oper}{t:List Value}{df:List Deferred}{ds:List Nat}{w1:World}{Rs:List (Value→World→Prop)}(h:Drawn P ops t df ds w1 Rs) (R:Value→World→Prop)
  {o:Oper} {d:Nat} (ho:ops[Rs.length]? = some o) (hd:ds[Rs.length]? = some d) (hR:Stable R)
  (hk:∀ g w,Below w1.heap.size w1 w→(∀ j∈depsOf o,RAt Rs ds j g w)→Unturned ops t ds Rs.length g→wpList P ops (DrawPost ⟨(fillD t ds g).toArray,df⟩ d w R) [o] ⟨(fillD t ds g).toArray,df⟩ w):
  Drawn P ops t df ds w1 (Rs++[R]):=by
 refine⟨by have:=(List.getElem?_eq_some_iff.1 hd).1;simp;omega,fun R' hR'=>?_,fun i o' d' R' ho' hd' hR' g w hb hdeps hun=>?_⟩
 ·rcases List.mem_append.1 hR' with h1|h1
  ·exact h.stable R' h1
  ·rw[List.mem_singleton.1 h1];exact hR
 ·have hdeps' : ∀ j∈depsOf o',RAt Rs ds j g w:=fun j hj=>(hdeps j hj).pre
  rcases Nat.lt_or_ge i Rs.length with hi|hi
  ·rw[List.getElem?_append_left hi]at hR'
   exact h.ok i o' d' R' ho' hd' hR' g w hb hdeps' hun
  ·have hi' : i=Rs.length:=by
    have:=(List.getElem?_eq_some_iff.1 hR').1
    simp at this;omega
   subst hi'
   have e1:o'=o:=Option.some.inj (ho'.symm.trans ho)
   have e2:d'=d:=Option.some.inj (hd'.symm.trans hd)
   have e3:R'=R:=by simpa using hR'.symm
   subst e1;subst e2;subst e3
   exact hk g w hb hdeps' hun
theorem Oper.wp_mono2 {P:Program}{Q Q' : Exit→Act→World→Prop}{o:Oper}{a:Act}{w:World}{K K' : Act→World→Prop}(h:∀ a w,K a w→K' a w)
  (hp:∀ c a w,¬ Q (.panic c) a w) (ho:∀ a w,¬ Q .outgrown a w) (hh:o.wp P a w K Q):o.wp P a w K' Q':=by
 unfold Oper.wp at *
 generalize (execOp a.eval o).run P w=r at *
 cases r with
 | ok n w'=>
  cases n<;>simp only[Oper.upon]at hh ⊢<;>
   first
    | exact h _ _ hh
    | exact Calls.mono hh (fun e w'' he=>by
      cases e with
      | returned v=>exact h _ _ he
      | panicked c=>exact(hp _ _ _ he).elim
      | outgrown=>obtain⟨a,w,hq⟩:=he;exact(ho _ _ hq).elim)
    | exact Rows.mono hh (fun _ _ he=>h _ _ he)
 | halt x w'=>
  cases x<;>simp only[Oper.upon]at hh ⊢
  case panic v=>exact(hp _ _ _ hh).elim
theorem wpOp_of_single {P:Program}{ops:Array Oper}{Q Q' : Exit→Act→World→Prop}{i:Nat}{o:Oper}{a:Act}{w:World}{K:Act→World→Prop}(hi:ops[i]? = some o)
  (hp:∀ c a w,¬ Q (.panic c) a w) (ho:∀ a w,¬ Q .outgrown a w) (hK:∀ a w,Q .normal a w→K a w) (h:wpList P ops Q [o] a w):wpOp P ops Q' i K a w:=by
 unfold wpOp
 simp only[hi]
 unfold wpList at h
 split
 ·rename_i hw
  rw[if_pos hw]at h
  rcases h with h|⟨_,a',w',hq⟩
  ·exact .inl (Oper.wp_mono2 (fun a w hq=>hK a w hq) hp ho h)
  ·exact(ho _ _ hq).elim
 ·rename_i hw
  rw[if_neg hw]at h
  exact hK _ _ h
def Region.orderB (ops:Array Oper):Bool:=(List.range ops.size).all fun i=>match ops[i]? with|some o=>(depsOf o).all (fun j=>decide (j<i))|none=>true
def Region.fullA (ops:Array Oper) (n:Nat):Array Bool:=((List.range ops.size).map fun i=>decide (i<n)).toArray
def Region.dstB (ops:Array Oper) (ds:List Nat):Bool:=(List.range ds.length).all fun i=>((ops[i]?).bind (·.dst))==ds[i]?
def Region.drawB (ops:Array Oper) (ds:List Nat):Bool:=
 Region.orderB ops&&Region.dstB ops ds&&decide ds.Nodup&&Region.seqB .any ops (ops.size - ds.length) ds.length (Region.fullA ops ds.length) &&
  (decide (ds.length=ops.size) || (decide (ds.length<ops.size)&&Region.sinkB .any ops ds.length&&Region.chainB .any ops ds.length))
theorem filter_one {p p' : Nat→Bool}{i:Nat}:∀ (l:List Nat),l.Nodup→i∈l→p i=true→p' i=false→(∀ k,k≠i→p' k=p k)→(l.filter p).length=(l.filter p').length+1
 | [],_,h,_,_,_=>by cases h
 | x::l,hn,hm,h1,h2,h3=>by
  simp only[List.nodup_cons]at hn
  by_cases hx:x=i
  ·subst hx
   have e:l.filter p'=l.filter p:=List.filter_congr fun k hk=>h3 k (fun hki=>hn.1 (hki▸hk))
   simp[List.filter_cons,h1,h2,e]
  ·have hm' : i∈l:=by rcases List.mem_cons.1 hm with h|h;exact(hx h.symm).elim;exact h
   have ih:=filter_one l hn.2 hm' h1 h2 h3
   have e:=h3 x hx
   cases hp:p x<;>simp[List.filter_cons,hp,e,ih]
section
variable {P : Program} {ops : Array Oper} {Q : Exit → Act → World → Prop} {t : List Value} {df : List Deferred} {ds : List Nat} {w1 : World} {Rs : List (Value → World → Prop)}
theorem depsOf_spec {o:Oper}{e:Edge}(he:e∈o.after) (hb:Region.binds .any e=true):e.on∈depsOf o:=by
 unfold depsOf
 exact List.mem_map.2 ⟨e,List.mem_filter.2 ⟨by simpa using he,hb⟩,rfl⟩
theorem depsOf_mem {o:Oper}{j:Nat}(h:j∈depsOf o):∃ e∈o.after,Region.binds .any e=true∧e.on=j:=by
 unfold depsOf at h
 obtain⟨e,he,rfl⟩:=List.mem_map.1 h
 obtain⟨h1,h2⟩:=List.mem_filter.1 he
 exact⟨e,by simpa using h1,h2,rfl⟩
theorem order_spec (h:Region.orderB ops=true) {i:Nat}{o:Oper}(hi:ops[i]? = some o) {j:Nat}(hj:j∈depsOf o):j<i:=by
 have hlt:=(Array.getElem?_eq_some_iff.1 hi).1
 have h1:=List.all_eq_true.1 h i (List.mem_range.2 hlt)
 simp only[hi]at h1
 simpa using List.all_eq_true.1 h1 j hj
theorem ready_some (ho:Region.orderB ops=true) {n:Nat}(hn:n≤ops.size) {listed:Array Bool}(hs:listed.size=ops.size):∀ (i:Nat),i<n→listed.getD i true=false→Region.ready .any ops listed≠[]:=by
 intro i
 induction i using Nat.strongRecOn with
 | _ i ih=>
  intro hi hu hr
  have hlt:i<ops.size:=by omega
  have hoi:ops[i]? = some ops[i]:=Array.getElem?_eq_getElem hlt
  by_cases hall:∀ e∈ops[i].after,Region.binds .any e=true→listed.getD e.on false=true
  ·have:i∈Region.ready .any ops listed:=mem_ready.2 ⟨hu,_,hoi,hall⟩
   rw[hr]at this;cases this
  ·obtain⟨e,he⟩:=Classical.not_forall.1 hall
   obtain⟨he,h2⟩:=Classical.not_imp.1 he
   obtain⟨hb,hl⟩:=Classical.not_imp.1 h2
   replace hl:listed.getD e.on false=false:=by simpa using hl
   have hei:=order_spec ho hoi (depsOf_spec he hb)
   exact ih e.on hei (by omega) (getD_in (by omega) hl) hr
theorem unturned_of {n i:Nat}{listed:Array Bool}{g:Nat→Value}(inv:HeadInv .any ops n listed) (hun:listed.getD i true=false) (hU:∀ j d,ds[j]? = some d→listed.getD j true=false→g d=t.getD d undef):Unturned ops t ds i g:=by
 intro j oj d hoj hij hd
 refine hU j d hd ?_
 obtain⟨e,he,hb,hon⟩:=depsOf_mem hij
 cases hl:listed.getD j false with
 | false=>exact getD_in (by rw[inv.size];exact(Array.getElem?_eq_some_iff.1 hoj).1) hl
 | true=>
  have h2:=inv.closed j oj hoj hl e he hb
  rw[hon,getD_both hun]at h2
  cases h2
theorem turn_of {i d0:Nat}{listed:Array Bool}{g:Nat→Value}{v:Value}(hnd:ds.Nodup) (hdi:ds[i]? = some d0) (hU:∀ j d,ds[j]? = some d→listed.getD j true=false→g d=t.getD d undef):
  ∀ j d,ds[j]? = some d→(listed.setIfInBounds i true).getD j true=false→upd g d0 v d=t.getD d undef:=by
 intro j d hd hl
 by_cases hji:j=i
 ·subst hji
  by_cases hlt:j<listed.size
  ·simp[hlt]at hl
  ·simp[hlt]at hl
 ·rw[getD_set_ne true (Ne.symm hji)]at hl
  have hne:d≠d0:=by
   rintro rfl
   obtain⟨h1,e1⟩:=List.getElem?_eq_some_iff.1 hd
   obtain⟨h2,e2⟩:=List.getElem?_eq_some_iff.1 hdi
   rcases Nat.lt_or_gt_of_ne hji with h|h
   ·exact List.pairwise_iff_getElem.1 hnd j i h1 h2 h (e1.trans e2.symm)
   ·exact List.pairwise_iff_getElem.1 hnd i j h2 h1 h (e2.trans e1.symm)
  rw[show upd g d0 v d=g d from if_neg hne]
  exact hU j d hd hl
theorem draw_core (hB:Region.drawB ops ds=true) (hlen:Rs.length=ds.length) (hD:Drawn P ops t df ds w1 Rs)
  (hfin:∀ g w,Below w1.heap.size w1 w→(∀ j,j<ds.length→RAt Rs ds j g w)→wpList P ops Q (ops.toList.drop ds.length) ⟨(fillD t ds g).toArray,df⟩ w):
  ∀ (c:Nat) (listed:Array Bool) (g:Nat→Value) (w:World),HeadInv .any ops ds.length listed→((List.range ds.length).filter fun i=>!listed.getD i true).length=c→
   Below w1.heap.size w1 w→(∀ j,j<ds.length→listed.getD j false=true→RAt Rs ds j g w)→(∀ j d,ds[j]? = some d→listed.getD j true=false→g d=t.getD d undef)→
   wpAny P .any ops Q (c+(ops.size - ds.length)) listed ⟨(fillD t ds g).toArray,df⟩ w:=by
 simp only[Region.drawB,Bool.and_eq_true,Bool.or_eq_true,decide_eq_true_eq]at hB
 obtain⟨⟨⟨⟨hord,hdst⟩,hnd⟩,hseq⟩,hsz⟩:=hB
 have hle:ds.length≤ops.size:=by rcases hsz with h|h<;>omega
 intro c
 induction c with
 | zero=>
  intro listed g w inv hc hb hR hU
  have hall:∀ i,i<ds.length→listed.getD i false=true:=by
   intro i hi
   have h0:=List.length_eq_zero_iff.1 hc
   have h1:i ∉ ((List.range ds.length).filter fun i=>!listed.getD i true):=by rw[h0];simp
   have h2:listed.getD i true=true:=by
    cases hg:listed.getD i true with
    | true=>rfl
    | false=>exact(h1 (List.mem_filter.2 ⟨List.mem_range.2 hi,by simp[hg]⟩)).elim
   have hil:i<listed.size:=by rw[inv.size];omega
   simp[hil]at h2 ⊢;exact h2
  have hfull:listed=Region.fullA ops ds.length:=by
   apply Array.ext
   ·simp[Region.fullA,inv.size]
   ·intro i h1 h2
    simp only[Region.fullA,List.getElem_toArray,List.getElem_map,List.getElem_range]
    by_cases hi:i<ds.length
    ·have:=hall i hi;simp[h1]at this;simp[hi,this]
    ·have:=inv.tail i (by omega) (by rw[← inv.size];exact h1);simp[h1]at this;simp[hi,this]
  have hl:(ops.toList.drop ds.length).length=ops.size - ds.length:=by simp
  rw[Nat.zero_add,← hl]
  refine wpAny_of_seq _ ds.length listed _ w (fun j=>by simp) (by rw[hl,hfull];exact hseq) (hfin g w hb fun j hj=>hR j hj (hall j hj))
 | succ c ih=>
  intro listed g w inv hc hb hR hU
  obtain⟨i0,hi0,hu0⟩:∃ i,i<ds.length∧listed.getD i true=false:=by
   cases hf:(List.range ds.length).filter fun i=>!listed.getD i true with
   | nil=>rw[hf]at hc;cases hc
   | cons i l=>
    have:i∈(List.range ds.length).filter fun i=>!listed.getD i true:=by rw[hf];exact List.mem_cons_self
    obtain⟨h1,h2⟩:=List.mem_filter.1 this
    exact⟨i,List.mem_range.1 h1,by simpa using h2⟩
  rw[show c+1+(ops.size - ds.length)=(c+(ops.size - ds.length))+1 by omega]
  refine⟨fun h=>absurd h (ready_some hord hle inv.size i0 hi0 hu0),fun i hi=>?_⟩
  obtain⟨hun,o,hoi,hall⟩:=mem_ready.1 hi
  have hin:i<ds.length:=by
   rcases hsz with h|⟨⟨h,hs⟩,hcn⟩
   ·rw[h];exact(Array.getElem?_eq_some_iff.1 hoi).1
   ·rcases Nat.lt_or_ge i ds.length with h' | h'
    ·exact h'
    ·exact absurd hi (tail_waits hs hcn h inv _ i0 rfl hi0 hu0 i h')
  have hdi:ds[i]? = some ds[i]:=List.getElem?_eq_getElem hin
  have hRi:Rs[i]? = some (Rs[i]'(by omega)):=List.getElem?_eq_getElem (by omega)
  have hdeps:∀ j∈depsOf o,RAt Rs ds j g w:=fun j hj=>by
   obtain⟨e,he,hbd,rfl⟩:=depsOf_mem hj
   have:=order_spec hord hoi hj
   exact hR _ (by omega) (hall e he hbd)
  refine wpOp_of_single hoi (fun _ _ _ h=>by cases h.1) (fun _ _ h=>by cases h.1) (fun a' w' h=>?_) (hD.ok i o _ _ hoi hdi hRi g w hb hdeps (unturned_of inv hun hU))
  obtain⟨_,v,rfl,hbw,hv⟩:=h
  have hput:(⟨(fillD t ds g).toArray,df⟩:Act).put (some ds[i]) v=⟨(fillD t ds (upd g ds[i] v)).toArray,df⟩:=by
   simp only[Act.put,List.setIfInBounds_toArray]
   rw[fillD_set (List.getElem_mem hin)]
  rw[hput]
  have hb' : Below w1.heap.size w1 w':=hb.trans (hbw.mono hb.size)
  refine ih _ _ _ (inv.set hi hin) ?_ hb' (fun j hj hl=>?_) (turn_of hnd hdi hU)
  ·have hcount:=filter_one (p:=fun k=>!listed.getD k true) (p':=fun k=>!(listed.setIfInBounds i true).getD k true) (i:=i) (List.range ds.length) List.nodup_range (List.mem_range.2 hin) (by simp[hun])
    (by
     have:i<listed.size:=by rw[inv.size];omega
     simp[this])
    (fun k hk=>by rw[getD_set_ne true (Ne.symm hk)])
   omega
  ·have hdj:ds[j]? = some ds[j]:=List.getElem?_eq_getElem hj
   have hRj:Rs[j]? = some (Rs[j]'(by omega)):=List.getElem?_eq_getElem (by omega)
   by_cases hji:j=i
   ·subst hji
    unfold RAt
    simp only[hdj,hRj,upd,if_true]
    exact hv
   ·rw[getD_set_ne false (Ne.symm hji)]at hl
    have h0:=hR j hj hl
    unfold RAt at h0 ⊢
    simp only[hdj,hRj]at h0 ⊢
    have hne:ds[j]≠ds[i]:=by
     rcases Nat.lt_or_gt_of_ne hji with h|h
     ·exact List.pairwise_iff_getElem.1 hnd j i hj hin h
     ·exact fun he=>List.pairwise_iff_getElem.1 hnd i j hin hj h he.symm
    rw[show upd g ds[i] v ds[j]=g ds[j] from if_neg hne]
    exact hD.stable _ (List.getElem_mem _) _ _ _ hbw h0
theorem draw_region {id:Nat}{L:List LBlk}{D:List Datum}{w0:World}(hm:P.follows .mixedOrders=true) (hL:Loc w0 w1 L D) (hB:Region.drawB ops ds=true) (hlen:Rs.length=ds.length) (hD:Drawn P ops t df ds w1 Rs)
  (hfin:∀ g w,Below w1.heap.size w1 w→(∀ j,j<ds.length→RAt Rs ds j g w)→wpList P ops Q (ops.toList.drop ds.length) ⟨(fillD t ds g).toArray,df⟩ w):(Code.region id ops true).wp P Q ⟨t.toArray,df⟩ w1:=by
 refine wp_region_any hm ?_
 have hle:ds.length≤ops.size:=by
  simp only[Region.drawB,Bool.and_eq_true,Bool.or_eq_true,decide_eq_true_eq]at hB
  rcases hB.2 with h|h<;>omega
 have h:=draw_core (Q:=Q) hB hlen hD hfin ds.length (Array.replicate ops.size false) (fun d=>t.getD d undef) w1.drew
  ⟨by simp,fun j oj _ hl=>(by rw[getD_replicate_false]at hl;cases hl),fun k _ hk=>(by simp[hk])⟩
  (by
   have:((List.range ds.length).filter fun i=>!(Array.replicate ops.size false).getD i true)=List.range ds.length:=by
    rw[List.filter_eq_self]
    intro i hi
    have:i<ops.size:=by have:=List.mem_range.1 hi;omega
    simp[this]
   rw[this];simp)
  ((Below.refl _ _).drew) (fun j _ hl=>(by rw[getD_replicate_false]at hl;cases hl)) (fun _ _ _ _=>rfl)
 rw[fillD_self,show ds.length+(ops.size - ds.length)=ops.size by omega]at h
 exact h
def AllR (Rs:List (Value→World→Prop)) (ds:List Nat) (g:Nat→Value) (w:World):List Nat→Prop
 | []=>True
 | j::l=>RAt Rs ds j g w∧AllR Rs ds g w l
theorem allR_of {g:Nat→Value}{w:World}:∀ {l:List Nat},(∀ j∈l,RAt Rs ds j g w)→AllR Rs ds g w l
 | [],_=>trivial
 | _::_,h=>⟨h _ List.mem_cons_self,allR_of fun j hj=>h j (List.mem_cons_of_mem _ hj)⟩
theorem heap_new (w:World) (o:Obj):(w.alloc o).heap[w.heap.size]? = some o:=by
 show (w.heap.push _)[w.heap.size]? = _;simp
def RowR (E:TypeId) (n:Nat) (cs:List Value):Value→World→Prop:=fun v w=>∃ b,v=.slice (some ⟨b,0,none⟩) n n∧w.heap[b]? = some (.cells cs.toArray E (0,0))
def PtrR (B:Nat) (T:TypeId) (cs:List Value):Value→World→Prop:=fun v w=>∃ b,B≤b∧v=.pointer (some ⟨b,0,none⟩)∧w.heap[b]? = some (.cells cs.toArray T (0,0))
def RowP (B:Nat) (E:TypeId) (n:Nat) (cs:List Value):Value→World→Prop:=fun v w=>∃ b,B≤b∧v=.slice (some ⟨b,0,none⟩) n n∧w.heap[b]? = some (.cells cs.toArray E (0,0))
theorem RowP.stable {B E n cs}:Stable (RowP B E n cs):=by
 rintro v w w' hb ⟨b,h,hv,hc⟩
 exact⟨b,h,hv,(hb.block _ (heap_lt hc)).trans hc⟩
theorem allR_get {Rs:List (Value→World→Prop)}{ds:List Nat}{g:Nat→Value}{w:World}:∀ {l:List Nat}{j:Nat},AllR Rs ds g w l→j∈l→RAt Rs ds j g w
 | [],_,_,h=>by cases h
 | x::l,j,h,hj=>by
  rcases List.mem_cons.1 hj with rfl|hj
  ·exact h.1
  ·exact allR_get h.2 hj
theorem RowR.stable {E n cs}:Stable (RowR E n cs):=by
 rintro v w w' hb ⟨b,hv,hc⟩
 exact⟨b,hv,(hb.block _ (heap_lt hc)).trans hc⟩
theorem PtrR.stable {B T cs}:Stable (PtrR B T cs):=by
 rintro v w w' hb ⟨b,h,hv,hc⟩
 exact⟨b,h,hv,(hb.block _ (heap_lt hc)).trans hc⟩
theorem heap_cell {w:World}{b:Nat}{cs:List Value}{T:TypeId}(h:w.heap[b]? = some (.cells cs.toArray T (0,0))) (j:Nat) {v:Value}(hj:cs[j]? = some v):w.cell? ⟨b,j,none⟩=some v:=by
 simp[World.cell?,h,hj]
def DrawGoal (P:Program) (ops:Array Oper) (C:Prop) (t:List Value) (df:List Deferred) (ds:List Nat) (w1:World) (Rs:List (Value→World→Prop)) (os:List Oper) (dr:List Nat):Prop:=
 ops.toList.drop Rs.length=os→ds.drop Rs.length=dr→Drawn P ops t df ds w1 Rs→C
theorem draw_begin {id:Nat}{l:List Oper}(ds:List Nat) (h:DrawGoal P l.toArray ((Code.region id l.toArray true).wp P Q ⟨t.toArray,df⟩ w1) t df ds w1 [] l ds):(Code.region id l.toArray true).wp P Q ⟨t.toArray,df⟩ w1:=h rfl rfl Drawn.nil
theorem drop_head {α:Type}{l:List α}{k:Nat}{x:α}{r:List α}(h:l.drop k=x::r):l[k]? = some x∧l.drop (k+1)=r:=by
 have h1:(l.drop k)[0]? = some x:=by rw[h];rfl
 refine⟨by simpa using h1,?_⟩
 rw[← List.drop_drop,h];rfl
theorem draw_next {C:Prop}(R:Value→World→Prop) {o:Oper}{os:List Oper}{d:Nat}{dr:List Nat}(hR:Stable R)
  (hk:∀ g w,Below w1.heap.size w1 w→AllR Rs ds g w (depsOf o)→wpList P ops (DrawPost ⟨(fillD t ds g).toArray,df⟩ d w R) [o] ⟨(fillD t ds g).toArray,df⟩ w)
  (h:DrawGoal P ops C t df ds w1 (Rs++[R]) os dr):DrawGoal P ops C t df ds w1 Rs (o::os) (d::dr):=fun h1 h2 hD=>by
 obtain⟨a1,a2⟩:=drop_head h1
 obtain⟨b1,b2⟩:=drop_head h2
 exact h (by simpa using a2) (by simpa using b2) (hD.step R (by simpa using a1) b1 hR fun g w hb Z _=>hk g w hb (allR_of Z))
def HoldsB (ops:Array Oper) (ds:List Nat) (i:Nat) (us:List (Nat × Nat)):Bool:=us.all fun p=>(ds[p.1]? == some p.2)&&(match ops[p.1]? with|some oj=>(depsOf oj).contains i|none=>false)
def AllU (t:List Value) (g:Nat→Value):List (Nat × Nat)→Prop
 | []=>True
 | p::l=>g p.2=t.getD p.2 undef∧AllU t g l
theorem allU_of {i:Nat}{g:Nat→Value}(hU:Unturned ops t ds i g):∀ {us:List (Nat × Nat)},HoldsB ops ds i us=true→AllU t g us
 | [],_=>trivial
 | p::l,h=>by
  simp only[HoldsB,List.all_cons,Bool.and_eq_true,beq_iff_eq]at h
  obtain⟨⟨h1,h2⟩,h3⟩:=h
  refine⟨?_,allU_of hU h3⟩
  cases ho:ops[p.1]? with
  | none=>simp[ho]at h2
  | some oj=>simp only[ho,List.contains_iff_mem]at h2;exact hU _ _ _ ho h2 h1
theorem draw_nextU {C:Prop}(R:Value→World→Prop) (us:List (Nat × Nat)) (i:Nat) {o:Oper}{os:List Oper}{d:Nat}{dr:List Nat}(hR:Stable R) (hi:Rs.length=i) (hu:HoldsB ops ds i us=true)
  (hk:∀ g w,Below w1.heap.size w1 w→AllR Rs ds g w (depsOf o)→AllU t g us→wpList P ops (DrawPost ⟨(fillD t ds g).toArray,df⟩ d w R) [o] ⟨(fillD t ds g).toArray,df⟩ w)
  (h:DrawGoal P ops C t df ds w1 (Rs++[R]) os dr):DrawGoal P ops C t df ds w1 Rs (o::os) (d::dr):=fun h1 h2 hD=>by
 subst hi
 obtain⟨a1,a2⟩:=drop_head h1
 obtain⟨b1,b2⟩:=drop_head h2
 exact h (by simpa using a2) (by simpa using b2) (hD.step R (by simpa using a1) b1 hR fun g w hb Z hU=>hk g w hb (allR_of Z) (allU_of hU hu))
theorem draw_valU {C:Prop}(us:List (Nat × Nat)) (i:Nat) {x:Value}{o:Oper}{os:List Oper}{d:Nat}{dr:List Nat}(hi:Rs.length=i) (hu:HoldsB ops ds i us=true)
  (hk:∀ g w,Below w1.heap.size w1 w→AllR Rs ds g w (depsOf o)→AllU t g us→wpList P ops (DrawPost ⟨(fillD t ds g).toArray,df⟩ d w (fun v _=>v=x)) [o] ⟨(fillD t ds g).toArray,df⟩ w)
  (h:DrawGoal P ops C t df ds w1 (Rs++[fun v _=>v=x]) os dr):DrawGoal P ops C t df ds w1 Rs (o::os) (d::dr):=draw_nextU _ us i (fun _ _ _ _ h=>h) hi hu hk h
theorem draw_val {C:Prop}{x:Value}{o:Oper}{os:List Oper}{d:Nat}{dr:List Nat}
  (hk:∀ g w,Below w1.heap.size w1 w→AllR Rs ds g w (depsOf o)→wpList P ops (DrawPost ⟨(fillD t ds g).toArray,df⟩ d w (fun v _=>v=x)) [o] ⟨(fillD t ds g).toArray,df⟩ w)
  (h:DrawGoal P ops C t df ds w1 (Rs++[fun v _=>v=x]) os dr):DrawGoal P ops C t df ds w1 Rs (o::os) (d::dr):=draw_next _ (fun _ _ _ _ h=>h) hk h
theorem draw_end {id:Nat}{os:List Oper}{L:List LBlk}{D:List Datum}{w0:World}(hL:Loc w0 w1 L D) (hm:P.follows .mixedOrders=true) (hB:Region.drawB ops ds=true)
  (hfin:∀ g w,Below w1.heap.size w1 w→AllR Rs ds g w (List.range Rs.length)→wpList P ops Q os ⟨(fillD t ds g).toArray,df⟩ w):DrawGoal P ops ((Code.region id ops true).wp P Q ⟨t.toArray,df⟩ w1) t df ds w1 Rs os []:=
 fun h1 h2 hD=>by
  have hle:Rs.length≤ds.length:=hD.short
  have hge:ds.length≤Rs.length:=List.drop_eq_nil_iff.1 h2
  have hlen:Rs.length=ds.length:=Nat.le_antisymm hle hge
  exact draw_region hm hL hB hlen hD (fun g w hb hR=>by
   rw[← hlen,h1]
   exact hfin g w hb (allR_of fun j hj=>hR j (by rw[← hlen];exact List.mem_range.1 hj)))
def Region.sinkF (ops:Array Oper) (n:Nat) (fs:List Nat):Bool:=
 (List.range n).all fun i=>fs.contains i || (List.range (n+1)).any fun j=>decide (i<j) && !fs.contains j&&Region.waitsFor .any ops j i
def Region.lateB (ops:Array Oper) (fs:List Nat):Bool:=
 Region.noSelect ops&&fs.all fun i=>match ops[i]? with
  | some oi=>(List.range ops.size).all fun j=>decide (j=i) || Region.waitsFor .any ops j i || Region.waitsFor .any ops i j || (match ops[j]? with|some oj=>oi.apart ops oj|none=>true)
  | none=>false
def Region.drawF (ops:Array Oper) (ds fs:List Nat):Bool:=
 Region.orderB ops&&Region.dstB ops ds&&decide ds.Nodup&&Region.seqB .any ops (ops.size - ds.length) ds.length (Region.fullA ops ds.length) &&
  (decide (ds.length<ops.size)&&Region.sinkF ops ds.length fs&&Region.chainB .any ops ds.length)&&Region.lateB ops fs
theorem tail_waitsF {n:Nat}{fs:List Nat}{listed:Array Bool}(hs:Region.sinkF ops n fs=true) (hc:Region.chainB .any ops n=true) (hn:n<ops.size) (inv:HeadInv .any ops n listed):
  ∀ (d i:Nat),n - i=d→i<n→i ∉ fs→listed.getD i true=false→∀ t,n≤t→t ∉ Region.ready .any ops listed:=by
 intro d
 induction d using Nat.strongRecOn with
 | _ d ih=>
  intro i hd hi hf hun t ht hr
  obtain⟨_,ot,hot,hall⟩:=mem_ready.1 hr
  have htlt:t<ops.size:=(Array.getElem?_eq_some_iff.1 hot).1
  by_cases htn:t=n
  ·subst htn
   have h1:=List.all_eq_true.1 hs i (List.mem_range.2 hi)
   simp only[Bool.or_eq_true,List.contains_iff_mem]at h1
   rcases h1 with h1|h1
   ·exact hf h1
   obtain⟨j,hj,hj2⟩:=List.any_eq_true.1 h1
   simp only[Bool.and_eq_true,decide_eq_true_eq,Bool.not_eq_true',List.contains_eq_mem,decide_eq_false_iff_not]at hj2
   obtain⟨⟨hij,hjf⟩,hjw⟩:=hj2
   obtain⟨oj,hoj,e,he,hb,hon⟩:=Region.waitsFor_spec hjw
   have hjle:j≤t:=by have:=List.mem_range.1 hj;omega
   by_cases hjt:j=t
   ·subst hjt
    have:oj=ot:=Option.some.inj (hoj.symm.trans hot)
    subst this
    have h2:=hall e he hb
    rw[hon,getD_both hun]at h2
    cases h2
   ·cases hl:listed.getD j false with
    | true=>
     have h2:=inv.closed j oj hoj hl e he hb
     rw[hon,getD_both hun]at h2
     cases h2
    | false=>
     have hjs:j<listed.size:=by rw[inv.size];omega
     exact ih (t - j) (by omega) j rfl (by omega) hjf (getD_in hjs hl) t (Nat.le_refl _) hr
  ·have h1:=List.all_eq_true.1 hc t (List.mem_range.2 htlt)
   simp only[Bool.or_eq_true,decide_eq_true_eq]at h1
   rcases h1 with h1|h1
   ·omega
   ·obtain⟨o',ho',e,he,hb,hon⟩:=Region.waitsFor_spec h1
    have:o'=ot:=Option.some.inj (ho'.symm.trans hot)
    subst this
    have h2:=hall e he hb
    rw[hon,getD_both (inv.tail (t - 1) (by omega) (by omega))]at h2
    cases h2
theorem least_of (p:Nat→Prop):∀ (n:Nat),p n→∃ m,p m∧∀ k,k<m→¬ p k:=by
 intro n
 induction n using Nat.strongRecOn with
 | _ n ih=>
  intro h
  by_cases hk:∃ k,k<n∧p k
  ·obtain⟨k,hk,hp⟩:=hk;exact ih k hk hp
  ·exact⟨n,h,fun k hk' hp=>hk ⟨k,hk',hp⟩⟩
theorem draw_coreF {fs:List Nat}(hB:Region.drawF ops ds fs=true) (hlen:Rs.length=ds.length) (hD:Drawn P ops t df ds w1 Rs) (hQ:∀ c a (d:Nat) v w,Q (.panic c) (a.put (some d) v) w→Q (.panic c) a w)
  (hF:∀ i∈fs,∀ o d R,ops[i]? = some o→ds[i]? = some d→Rs[i]? = some R→∀ g w,Below w1.heap.size w1 w→AllR Rs ds g w (depsOf o)→∃ v,Yields P ops o v ⟨(fillD t ds g).toArray,df⟩∧R v w)
  (hfin:∀ g w,Below w1.heap.size w1 w→(∀ j,j<ds.length→RAt Rs ds j g w)→wpList P ops Q (ops.toList.drop ds.length) ⟨(fillD t ds g).toArray,df⟩ w):
  ∀ (c:Nat) (listed:Array Bool) (g:Nat→Value) (w:World),HeadInv .any ops ds.length listed→((List.range ds.length).filter fun i=>!listed.getD i true).length=c→
   Below w1.heap.size w1 w→(∀ j,j<ds.length→listed.getD j false=true→RAt Rs ds j g w)→(∀ j d,ds[j]? = some d→listed.getD j true=false→g d=t.getD d undef)→
   wpAny P .any ops Q (c+(ops.size - ds.length)) listed ⟨(fillD t ds g).toArray,df⟩ w:=by
 simp only[Region.drawF,Bool.and_eq_true,decide_eq_true_eq]at hB
 obtain⟨⟨⟨⟨⟨hord,hdst⟩,hnd⟩,hseq⟩,⟨hsz,hs⟩,hcn⟩,hlate⟩:=hB
 have hle:ds.length≤ops.size:=by omega
 have step:∀ {listed:Array Bool} {i:Nat} {d:Nat} {R:Value→World→Prop} {g:Nat→Value} {w w' : World} {v:Value},HeadInv .any ops ds.length listed→i∈Region.ready .any ops listed→(hin:i<ds.length)→ds[i]? = some d→Rs[i]? = some R→
   Below w.heap.size w w'→R v w'→(∀ j,j<ds.length→listed.getD j false=true→RAt Rs ds j g w)→
   (∀ j,j<ds.length→(listed.setIfInBounds i true).getD j false=true→RAt Rs ds j (upd g d v) w')∧
   ((List.range ds.length).filter fun k=>!listed.getD k true).length=((List.range ds.length).filter fun k=>!(listed.setIfInBounds i true).getD k true).length+1:=by
  intro listed i d R g w w' v inv hi hin hdi hRi hbw hv hR
  obtain⟨hun,o,hoi,hall⟩:=mem_ready.1 hi
  refine⟨fun j hj hl=>?_,filter_one (p:=fun k=>!listed.getD k true) (p':=fun k=>!(listed.setIfInBounds i true).getD k true) (i:=i) (List.range ds.length) List.nodup_range (List.mem_range.2 hin) (by simp[hun])
    (by
     have:i<listed.size:=by rw[inv.size];omega
     simp[this])
    (fun k hk=>by rw[getD_set_ne true (Ne.symm hk)])⟩
  have hdj:ds[j]? = some ds[j]:=List.getElem?_eq_getElem hj
  have hRj:Rs[j]? = some (Rs[j]'(by omega)):=List.getElem?_eq_getElem (by omega)
  by_cases hji:j=i
  ·subst hji
   unfold RAt
   simp only[hdi,hRi,upd,if_true]
   exact hv
  ·rw[getD_set_ne false (Ne.symm hji)]at hl
   have h0:=hR j hj hl
   unfold RAt at h0 ⊢
   simp only[hdj,hRj]at h0 ⊢
   have hd' : d=ds[i]:=by rw[List.getElem?_eq_getElem hin]at hdi;exact(Option.some.inj hdi).symm
   have hne:ds[j]≠d:=by
    rw[hd']
    rcases Nat.lt_or_gt_of_ne hji with h|h
    ·exact List.pairwise_iff_getElem.1 hnd j i hj hin h
    ·exact fun he=>List.pairwise_iff_getElem.1 hnd i j hin hj h he.symm
   rw[show upd g d v ds[j]=g ds[j] from if_neg hne]
   exact hD.stable _ (List.getElem_mem _) _ _ _ hbw h0
 have hput:∀ (g:Nat→Value) (i d:Nat) (v:Value),ds[i]? = some d→(⟨(fillD t ds g).toArray,df⟩:Act).put (some d) v=⟨(fillD t ds (upd g d v)).toArray,df⟩:=by
  intro g i d v hd
  simp only[Act.put,List.setIfInBounds_toArray]
  rw[fillD_set (List.mem_of_getElem? hd)]
 intro c
 induction c with
 | zero=>
  intro listed g w inv hc hb hR hU
  have hall:∀ i,i<ds.length→listed.getD i false=true:=by
   intro i hi
   have h0:=List.length_eq_zero_iff.1 hc
   have h1:i ∉ ((List.range ds.length).filter fun i=>!listed.getD i true):=by rw[h0];simp
   have h2:listed.getD i true=true:=by
    cases hg:listed.getD i true with
    | true=>rfl
    | false=>exact(h1 (List.mem_filter.2 ⟨List.mem_range.2 hi,by simp[hg]⟩)).elim
   have hil:i<listed.size:=by rw[inv.size];omega
   simp[hil]at h2 ⊢;exact h2
  have hfull:listed=Region.fullA ops ds.length:=by
   apply Array.ext
   ·simp[Region.fullA,inv.size]
   ·intro i h1 h2
    simp only[Region.fullA,List.getElem_toArray,List.getElem_map,List.getElem_range]
    by_cases hi:i<ds.length
    ·have:=hall i hi;simp[h1]at this;simp[hi,this]
    ·have:=inv.tail i (by omega) (by rw[← inv.size];exact h1);simp[h1]at this;simp[hi,this]
  have hl:(ops.toList.drop ds.length).length=ops.size - ds.length:=by simp
  rw[Nat.zero_add,← hl]
  refine wpAny_of_seq _ ds.length listed _ w (fun j=>by simp) (by rw[hl,hfull];exact hseq) (hfin g w hb fun j hj=>hR j hj (hall j hj))
 | succ c ih=>
  intro listed g w inv hc hb hR hU
  have depR:∀ {i:Nat} {o:Oper},i<ds.length→ops[i]? = some o→(∀ e∈o.after,Region.binds .any e=true→listed.getD e.on false=true)→∀ j∈depsOf o,RAt Rs ds j g w:=by
   intro i o hin hoi hall j hj
   obtain⟨e,he,hbd,rfl⟩:=depsOf_mem hj
   have:=order_spec hord hoi hj
   exact hR _ (by omega) (hall e he hbd)
  obtain⟨i0,hi0,hu0⟩:∃ i,i<ds.length∧listed.getD i true=false:=by
   cases hf:(List.range ds.length).filter fun i=>!listed.getD i true with
   | nil=>rw[hf]at hc;cases hc
   | cons i l=>
    have:i∈(List.range ds.length).filter fun i=>!listed.getD i true:=by rw[hf];exact List.mem_cons_self
    obtain⟨h1,h2⟩:=List.mem_filter.1 this
    exact⟨i,List.mem_range.1 h1,by simpa using h2⟩
  rw[show c+1+(ops.size - ds.length)=(c+(ops.size - ds.length))+1 by omega]
  by_cases hlateReady:∃ i,i∈fs∧i<ds.length∧i∈Region.ready .any ops listed
  ·obtain⟨i,hif,hin,hi⟩:=hlateReady
   obtain⟨hun,o,hoi,hall⟩:=mem_ready.1 hi
   have hdi:ds[i]? = some ds[i]:=List.getElem?_eq_getElem hin
   have hRi:Rs[i]? = some (Rs[i]'(by omega)):=List.getElem?_eq_getElem (by omega)
   obtain⟨v,hy,hv⟩:=hF i hif o _ _ hoi hdi hRi g w hb (allR_of (depR hin hoi hall))
   have hod:o.dst=some ds[i]:=by
    have h1:=List.all_eq_true.1 hdst i (List.mem_range.2 hin)
    simp only[hoi,Option.bind_some,beq_iff_eq]at h1
    rw[h1];exact hdi
   simp only[Region.lateB,Bool.and_eq_true]at hlate
   have hl2:=List.all_eq_true.1 hlate.2 i hif
   simp only[hoi]at hl2
   refine wpAny_first hoi (fun j o cs b ho=>Region.noSelect_spec hlate.1 j o cs b ho) (fun c a w h=>hQ c a _ _ w (by rw[hod]at h;exact h)) _ listed _ w (fun j oj hoj hji hjun hno=>?_) hi hy ?_
   ·have hjlt:=(Array.getElem?_eq_some_iff.1 hoj).1
    have h3:=List.all_eq_true.1 hl2 j (List.mem_range.2 hjlt)
    simp only[Bool.or_eq_true,decide_eq_true_eq,hoj]at h3
    rcases h3 with((h3|h3)|h3)|h3
    ·exact(hji h3).elim
    ·obtain⟨o',ho',e,he,hbd,hon⟩:=Region.waitsFor_spec h3
     have:o'=oj:=Option.some.inj (ho'.symm.trans hoj)
     subst this
     exact(hno e he hbd hon).elim
    ·obtain⟨o',ho',e,he,hbd,hon⟩:=Region.waitsFor_spec h3
     have:o'=o:=Option.some.inj (ho'.symm.trans hoi)
     subst this
     have h4:=hall e he hbd
     rw[hon,getD_both hjun]at h4
     cases h4
    ·exact h3
   ·rw[hod,hput g i _ v hdi]
    obtain⟨h5,h6⟩:=step (g:=g) (w:=w) (w':=w) (v:=v) inv hi hin hdi hRi (Below.refl _ _) hv hR
    exact ih _ _ _ (inv.set hi hin) (by omega) hb h5 (turn_of hnd hdi hU)
  ·refine⟨fun h=>absurd h (ready_some hord hle inv.size i0 hi0 hu0),fun i hi=>?_⟩
   obtain⟨hun,o,hoi,hall⟩:=mem_ready.1 hi
   have hin:i<ds.length:=by
    rcases Nat.lt_or_ge i ds.length with h' | h'
    ·exact h'
    ·exfalso
     obtain⟨m,⟨hm1,hm2⟩,hmin⟩:=least_of (fun k=>k<ds.length∧listed.getD k true=false) i0 ⟨hi0,hu0⟩
     by_cases hmf:m∈fs
     ·apply hlateReady
      have hmlt:m<ops.size:=by omega
      refine⟨m,hmf,hm1,mem_ready.2 ⟨hm2,_,Array.getElem?_eq_getElem hmlt,fun e he hbd=>?_⟩⟩
      have hem:=order_spec hord (Array.getElem?_eq_getElem hmlt) (depsOf_spec he hbd)
      cases hl:listed.getD e.on false with
      | true=>rfl
      | false=>exact(hmin e.on hem ⟨by omega,getD_in (by rw[inv.size];omega) hl⟩).elim
     ·exact tail_waitsF hs hcn hsz inv _ m rfl hm1 hmf hm2 i h' hi
   have hdi:ds[i]? = some ds[i]:=List.getElem?_eq_getElem hin
   have hRi:Rs[i]? = some (Rs[i]'(by omega)):=List.getElem?_eq_getElem (by omega)
   refine wpOp_of_single hoi (fun _ _ _ h=>by cases h.1) (fun _ _ h=>by cases h.1) (fun a' w' h=>?_) (hD.ok i o _ _ hoi hdi hRi g w hb (depR hin hoi hall) (unturned_of inv hun hU))
   obtain⟨_,v,rfl,hbw,hv⟩:=h
   rw[hput g i _ v hdi]
   obtain⟨h5,h6⟩:=step inv hi hin hdi hRi hbw hv hR
   exact ih _ _ _ (inv.set hi hin) (by omega) (hb.trans (hbw.mono hb.size)) h5 (turn_of hnd hdi hU)
theorem draw_endF {id:Nat}{os:List Oper}{L:List LBlk}{D:List Datum}{w0:World}(fs:List Nat) (hL:Loc w0 w1 L D) (hm:P.follows .mixedOrders=true) (hB:Region.drawF ops ds fs=true) (hQ:∀ c a (d:Nat) v w,Q (.panic c) (a.put (some d) v) w→Q (.panic c) a w)
  (hF:∀ i∈fs,∀ o d R,ops[i]? = some o→ds[i]? = some d→Rs[i]? = some R→∀ g w,Below w1.heap.size w1 w→AllR Rs ds g w (depsOf o)→∃ v,Yields P ops o v ⟨(fillD t ds g).toArray,df⟩∧R v w)
  (hfin:∀ g w,Below w1.heap.size w1 w→AllR Rs ds g w (List.range Rs.length)→wpList P ops Q os ⟨(fillD t ds g).toArray,df⟩ w):DrawGoal P ops ((Code.region id ops true).wp P Q ⟨t.toArray,df⟩ w1) t df ds w1 Rs os []:=
 fun h1 h2 hD=>by
  have hle:Rs.length≤ds.length:=hD.short
  have hge:ds.length≤Rs.length:=List.drop_eq_nil_iff.1 h2
  have hlen:Rs.length=ds.length:=Nat.le_antisymm hle hge
  have hdl:ds.length≤ops.size:=by
   simp only[Region.drawF,Bool.and_eq_true,decide_eq_true_eq]at hB
   omega
  refine wp_region_any hm ?_
  have h:=draw_coreF (Q:=Q) hB hlen hD hQ hF (fun g w hb hR=>by
   rw[← hlen,h1]
   exact hfin g w hb (allR_of fun j hj=>hR j (by rw[← hlen];exact List.mem_range.1 hj))) ds.length (Array.replicate ops.size false) (fun d=>t.getD d undef) w1.drew
   ⟨by simp,fun j oj _ hl=>(by rw[getD_replicate_false]at hl;cases hl),fun k _ hk=>(by simp[hk])⟩
   (by
    have:((List.range ds.length).filter fun i=>!(Array.replicate ops.size false).getD i true)=List.range ds.length:=by
     rw[List.filter_eq_self]
     intro i hi
     have:i<ops.size:=by have:=List.mem_range.1 hi;omega
     simp[this]
    rw[this];simp)
   ((Below.refl _ _).drew) (fun j _ hl=>(by rw[getD_replicate_false]at hl;cases hl)) (fun _ _ _ _=>rfl)
  rw[fillD_self,show ds.length+(ops.size - ds.length)=ops.size by omega]at h
  exact h
def LateOk (P:Program) (ops:Array Oper) (t:List Value) (df:List Deferred) (ds:List Nat) (w1:World) (Rs:List (Value→World→Prop)) (k:Nat):Prop:=
 ∀ o d R,ops[k]? = some o→ds[k]? = some d→Rs[k]? = some R→∀ g w,Below w1.heap.size w1 w→AllR Rs ds g w (depsOf o)→∃ v,Yields P ops o v ⟨(fillD t ds g).toArray,df⟩∧R v w
theorem late_ok {k:Nat}{o:Oper}{R:Value→World→Prop}(ho:ops.toList[k]? = some o) (hR:Rs[k]? = some R)
  (h:∀ g w,Below w1.heap.size w1 w→AllR Rs ds g w (depsOf o)→∃ v,Yields P ops o v ⟨(fillD t ds g).toArray,df⟩∧R v w):LateOk P ops t df ds w1 Rs k:=fun o' d R' ho' _ hR'=>by
 have e1:o'=o:=by rw[Array.getElem?_toList]at ho;exact Option.some.inj (ho'.symm.trans ho)
 have e2:R'=R:=Option.some.inj (hR'.symm.trans hR)
 subst e1;subst e2;exact h
theorem draw_end1 {id:Nat}{os:List Oper}{L:List LBlk}{D:List Datum}{w0:World}(k:Nat) (hL:Loc w0 w1 L D) (hm:P.follows .mixedOrders=true) (hB:Region.drawF ops ds [k]=true) (hQ:∀ c a (d:Nat) v w,Q (.panic c) (a.put (some d) v) w→Q (.panic c) a w)
  (hF:LateOk P ops t df ds w1 Rs k)
  (hfin:∀ g w,Below w1.heap.size w1 w→AllR Rs ds g w (List.range Rs.length)→wpList P ops Q os ⟨(fillD t ds g).toArray,df⟩ w):DrawGoal P ops ((Code.region id ops true).wp P Q ⟨t.toArray,df⟩ w1) t df ds w1 Rs os []:=
 draw_endF [k] hL hm hB hQ (fun i hi=>by rw[List.mem_singleton.1 hi];exact hF) hfin
end
end Go.Proofs.YtplcndmdkabmeaaGreatDoor
namespace Go.Proofs.YtplcndmdkabmeaaGreatDoor
open Go.RowKit
section
variable {P : Program} {ops : Array Oper} {Q : Exit → Act → World → Prop} {t : List Value} {df : List Deferred} {ds : List Nat} {w1 : World} {Rs : List (Value → World → Prop)}
theorem rat_val {j d:Nat}{x:Value}{g:Nat→Value}{w:World}(h:RAt Rs ds j g w) (h1:Rs[j]? = some (fun v _=>v=x)) (h2:ds[j]? = some d):g d=x:=by
 unfold RAt at h;rw[h1,h2]at h;exact h
theorem rat_row {j d B n:Nat}{E:TypeId}{cs:List Value}{g:Nat→Value}{w:World}(h:RAt Rs ds j g w) (h1:Rs[j]? = some (RowP B E n cs)) (h2:ds[j]? = some d):
  ∃ b,B≤b∧g d=.slice (some ⟨b,0,none⟩) n n∧w.heap[b]? = some (.cells cs.toArray E (0,0)):=by
 unfold RAt at h;rw[h1,h2]at h;exact h
theorem rat_ptr {j d B:Nat}{E:TypeId}{cs:List Value}{g:Nat→Value}{w:World}(h:RAt Rs ds j g w) (h1:Rs[j]? = some (PtrR B E cs)) (h2:ds[j]? = some d):
  ∃ b,B≤b∧g d=.pointer (some ⟨b,0,none⟩)∧w.heap[b]? = some (.cells cs.toArray E (0,0)):=by
 unfold RAt at h;rw[h1,h2]at h;exact h
theorem rat_any {j d:Nat}{R:Value→World→Prop}{g:Nat→Value}{w:World}(h:RAt Rs ds j g w) (h1:Rs[j]? = some R) (h2:ds[j]? = some d):R (g d) w:=by
 unfold RAt at h;rw[h1,h2]at h;exact h
theorem load_heap {Q:Exit→Act→World→Prop}{a:Act}{w:World}{rest:List Oper}{d:Option Tmp}{ty:TypeId}{pos:String}{after:Array Edge}{gd:Option (Nat × Bool)}{T:TypeId}{x:Operand}{b off:Nat}{Tb:TypeId}{cs:List Value}{v:Value}
  (hh:w.heap[b]? = some (.cells cs.toArray Tb (0,0))) (hw:Region.wanted ⟨d,.load T x,ty,pos,after,gd⟩ (yielded ops a.tmps)=true)
  (hx:a.eval x=.pointer (some ⟨b,off,none⟩)) (hv:Reads P T cs off v)
  (h:wpList P ops Q rest (a.put d v) w):wpList P ops Q (⟨d,.load T x,ty,pos,after,gd⟩::rest) a w:=
 wpList_val (o:=⟨d,.load T x,ty,pos,after,gd⟩) (w':=w) hw (by
  simp[execOp,Instr.loadAt,hx,Instr.sureAddr,hv.run w b (fun j=>by simp[World.cell?,hh])]) h
theorem draw_row {C:Prop}{E n:Nat}{cs:List Value}{o:Oper}{os:List Oper}{d:Nat}{dr:List Nat}
  (hk:∀ g w,Below w1.heap.size w1 w→AllR Rs ds g w (depsOf o)→wpList P ops (DrawPost ⟨(fillD t ds g).toArray,df⟩ d w (RowP w1.heap.size E n cs)) [o] ⟨(fillD t ds g).toArray,df⟩ w)
  (h:DrawGoal P ops C t df ds w1 (Rs++[RowP w1.heap.size E n cs]) os dr):DrawGoal P ops C t df ds w1 Rs (o::os) (d::dr):=draw_next _ RowP.stable hk h
theorem draw_ptr {C:Prop}{E:Nat}{cs:List Value}{o:Oper}{os:List Oper}{d:Nat}{dr:List Nat}
  (hk:∀ g w,Below w1.heap.size w1 w→AllR Rs ds g w (depsOf o)→wpList P ops (DrawPost ⟨(fillD t ds g).toArray,df⟩ d w (PtrR w1.heap.size E cs)) [o] ⟨(fillD t ds g).toArray,df⟩ w)
  (h:DrawGoal P ops C t df ds w1 (Rs++[PtrR w1.heap.size E cs]) os dr):DrawGoal P ops C t df ds w1 Rs (o::os) (d::dr):=draw_next _ PtrR.stable hk h
theorem wpList_glue {Q Q' : Exit→Act→World→Prop}{o:Oper}{rest:List Oper}{a:Act}{w:World}(hp:∀ c a w,¬ Q (.panic c) a w) (ho:∀ a w,¬ Q .outgrown a w)
  (hK:∀ a w,Q .normal a w→wpList P ops Q' rest a w) (h:wpList P ops Q [o] a w):wpList P ops Q' (o::rest) a w:=by
 unfold wpList at h ⊢
 split
 ·rename_i hw
  rw[if_pos hw]at h
  rcases h with h|⟨_,a',w',hq⟩
  ·exact .inl (Oper.wp_mono2 (fun a w hq=>hK a w hq) hp ho h)
  ·exact(ho _ _ hq).elim
 ·rename_i hw
  rw[if_neg hw]at h
  exact hK _ _ h
def Region.lineB (ops:Array Oper) (ds:List Nat):Bool:=Region.orderB ops&&Region.dstB ops ds&&decide ds.Nodup&&decide (ds.length≤ops.size)
theorem seq_core (hB:Region.lineB ops ds=true) (hlen:Rs.length=ds.length) (hD:Drawn P ops t df ds w1 Rs)
  (hfin:∀ g w,Below w1.heap.size w1 w→(∀ j,j<ds.length→RAt Rs ds j g w)→wpList P ops Q (ops.toList.drop ds.length) ⟨(fillD t ds g).toArray,df⟩ w):
  ∀ (c i:Nat) (g:Nat→Value) (w:World),i+c=ds.length→Below w1.heap.size w1 w→(∀ j,j<i→RAt Rs ds j g w)→(∀ j d,i≤j→ds[j]? = some d→g d=t.getD d undef)→
   wpList P ops Q (ops.toList.drop i) ⟨(fillD t ds g).toArray,df⟩ w:=by
 simp only[Region.lineB,Bool.and_eq_true,decide_eq_true_eq]at hB
 obtain⟨⟨⟨hord,hdst⟩,hnd⟩,hle⟩:=hB
 intro c
 induction c with
 | zero=>intro i g w hi hb hR _;rw[show i=ds.length by omega];exact hfin g w hb (fun j hj=>hR j (by omega))
 | succ c ih=>
  intro i g w hi hb hR hU
  have hin:i<ds.length:=by omega
  have hio:i<ops.size:=by omega
  have hoi:ops[i]? = some ops[i]:=Array.getElem?_eq_getElem hio
  have hdi:ds[i]? = some ds[i]:=List.getElem?_eq_getElem hin
  have hRi:Rs[i]? = some (Rs[i]'(by omega)):=List.getElem?_eq_getElem (by omega)
  have hdrop:ops.toList.drop i=ops[i]::ops.toList.drop (i+1):=by
   rw[List.drop_eq_getElem_cons (by simpa using hio)];simp
  rw[hdrop]
  refine wpList_glue (fun _ _ _ h=>by cases h.1) (fun _ _ h=>by cases h.1) (fun a' w' h=>?_)
   (hD.ok i _ _ _ hoi hdi hRi g w hb (fun j hj=>hR j (order_spec hord hoi hj)) (fun j oj d hoj hij hd=>hU j d (Nat.le_of_lt (order_spec hord hoj hij)) hd))
  obtain⟨_,v,rfl,hbw,hv⟩:=h
  have hput:(⟨(fillD t ds g).toArray,df⟩:Act).put (some ds[i]) v=⟨(fillD t ds (upd g ds[i] v)).toArray,df⟩:=by
   simp only[Act.put,List.setIfInBounds_toArray]
   rw[fillD_set (List.getElem_mem hin)]
  rw[hput]
  have hne:∀ j d,j≠i→ds[j]? = some d→d≠ds[i]:=fun j d hj hd he=>by
   subst he
   obtain⟨h1,e1⟩:=List.getElem?_eq_some_iff.1 hd
   rcases Nat.lt_or_gt_of_ne hj with h|h
   ·exact List.pairwise_iff_getElem.1 hnd j i h1 hin h e1
   ·exact List.pairwise_iff_getElem.1 hnd i j hin h1 h e1.symm
  refine ih (i+1) _ w' (by omega) (hb.trans (hbw.mono hb.size)) (fun j hj=>?_) (fun j d hj hd=>?_)
  ·by_cases hji:j=i
   ·subst hji
    unfold RAt
    simp only[hdi,hRi,upd,if_true]
    exact hv
   ·have h0:=hR j (by omega)
    have hjl:j<ds.length:=by omega
    have hdj:ds[j]? = some ds[j]:=List.getElem?_eq_getElem hjl
    have hRj:Rs[j]? = some (Rs[j]'(by omega)):=List.getElem?_eq_getElem (by omega)
    unfold RAt at h0 ⊢
    simp only[hdj,hRj]at h0 ⊢
    rw[show upd g ds[i] v ds[j]=g ds[j] from if_neg (hne j _ hji hdj)]
    exact hD.stable _ (List.getElem_mem _) _ _ _ hbw h0
  ·rw[show upd g ds[i] v d=g d from if_neg (hne j d (by omega) hd)]
   exact hU j d (by omega) hd
theorem seq_begin {id:Nat}{l:List Oper}(ds:List Nat) (h:DrawGoal P l.toArray ((Code.region id l.toArray false).wp P Q ⟨t.toArray,df⟩ w1) t df ds w1 [] l ds):(Code.region id l.toArray false).wp P Q ⟨t.toArray,df⟩ w1:=h rfl rfl Drawn.nil
theorem seq_end {id:Nat}{os:List Oper}{L:List LBlk}{D:List Datum}{w0:World}(hL:Loc w0 w1 L D) (hB:Region.lineB ops ds=true)
  (hfin:∀ g w,Below w1.heap.size w1 w→AllR Rs ds g w (List.range Rs.length)→wpList P ops Q os ⟨(fillD t ds g).toArray,df⟩ w):DrawGoal P ops ((Code.region id ops false).wp P Q ⟨t.toArray,df⟩ w1) t df ds w1 Rs os []:=
 fun h1 h2 hD=>by
  have hle:Rs.length≤ds.length:=hD.short
  have hge:ds.length≤Rs.length:=List.drop_eq_nil_iff.1 h2
  have hlen:Rs.length=ds.length:=Nat.le_antisymm hle hge
  refine wp_region_list ?_
  have h:=seq_core (Q:=Q) hB hlen hD (fun g w hb hR=>by
   rw[← hlen,h1]
   exact hfin g w hb (allR_of fun j hj=>hR j (by rw[← hlen];exact List.mem_range.1 hj))) ds.length 0 (fun d=>t.getD d undef) w1 (by omega) (Below.refl _ _) (fun j hj=>absurd hj (by omega)) (fun j d _ _=>rfl)
  rw[fillD_self,List.drop_zero]at h
  exact h
def cnd (c:Bool) (x:Value):Value:=bif c then x else undef
theorem beqT (e:Bool):((e==true)=true)=(e=true):=by cases e<;>simp
theorem beqF (e:Bool):((e==false)=true)=(e=false):=by cases e<;>simp
theorem cnd_true {x:Value}:cnd true x=x:=rfl
theorem yields_of {j d:Nat}{tmps:Array Value}{b:Bool}(h1:(ops[j]?).bind (·.dst)=some d) (h2:tmps[d]? = some (.bool b)):yielded ops tmps j=some b:=by
 simp[yielded,h1,h2]
theorem yields_no {j d:Nat}{tmps:Array Value}(h1:(ops[j]?).bind (·.dst)=some d) (h2:tmps[d]? = some undef):yielded ops tmps j=none:=by
 simp[yielded,h1,h2,undef]
theorem fill_at {g:Nat→Value}{d:Nat}(hd:d∈ds) (hl:d<t.length):((fillD t ds g).toArray)[d]? = some (g d):=by
 simp[fillD_get,hd,hl]
theorem single_skip {o:Oper}{a:Act}{w:World}{d:Nat}(hw:Region.wanted o (yielded ops a.tmps)=false) (hd:o.dst=some d) {R:Value→World→Prop}(hR:R undef w):wpList P ops (DrawPost a d w R) [o] a w:=by
 unfold wpList
 rw[if_neg (by simp[hw])]
 exact⟨rfl,undef,by rw[hd],Below.refl _ _,hR⟩
theorem single_run {op:Op}{ty:TypeId}{pos:String}{after:Array Edge}{gd:Option (Nat × Bool)}{a:Act}{w:World}{d:Nat}{R:Value→World→Prop}
  (hw:Region.wanted ⟨some d,op,ty,pos,after,gd⟩ (yielded ops a.tmps)=true) (h:wpList P ops (DrawPost a d w R) [⟨some d,op,ty,pos,after,none⟩] a w):wpList P ops (DrawPost a d w R) [⟨some d,op,ty,pos,after,gd⟩] a w:=by
 unfold wpList at h ⊢
 rw[if_pos hw]
 rw[if_pos (show Region.wanted ⟨some d,op,ty,pos,after,none⟩ (yielded ops a.tmps)=true from rfl)]at h
 rcases h with h|⟨h,h2⟩
 ·exact .inl h
 ·exact .inr ⟨h,h2⟩
theorem draw_guard {C:Prop}{e:Bool}{x:Value}{j dj:Nat}{b:Bool}{op:Op}{ty:TypeId}{pos:String}{after:Array Edge}{os:List Oper}{d:Nat}{dr:List Nat}
  (hj:Rs[j]? = some (fun v _=>v=.bool e)) (hdj:ds[j]? = some dj) (hop:(ops[j]?).bind (·.dst)=some dj) (Z:j∈depsOf ⟨some d,op,ty,pos,after,some (j,b)⟩) (hl:dj<t.length)
  (hk:(e==b)=true→∀ g w,Below w1.heap.size w1 w→AllR Rs ds g w (depsOf ⟨some d,op,ty,pos,after,some (j,b)⟩)→
   wpList P ops (DrawPost ⟨(fillD t ds g).toArray,df⟩ d w (fun v _=>v=x)) [⟨some d,op,ty,pos,after,none⟩] ⟨(fillD t ds g).toArray,df⟩ w)
  (h:DrawGoal P ops C t df ds w1 (Rs++[fun v _=>v=cnd (e==b) x]) os dr):DrawGoal P ops C t df ds w1 Rs (⟨some d,op,ty,pos,after,some (j,b)⟩::os) (d::dr):=by
 refine draw_val (fun g w hb hdeps=>?_) h
 have hv:g dj=.bool e:=rat_val (allR_get hdeps Z) hj hdj
 have hy:yielded ops (⟨(fillD t ds g).toArray,df⟩:Act).tmps j=some e:=yields_of hop (by rw[fill_at (List.mem_of_getElem? hdj) hl,hv])
 cases hc:(e==b) with
 | true=>
  refine single_run (by simp[Region.wanted,hy];simpa using hc) ?_
  simpa [cnd] using hk hc g w hb hdeps
 | false=>exact single_skip (by simp[Region.wanted,hy];simpa using hc) rfl (by simp[cnd])
theorem draw_guardC {C:Prop}{c e:Bool}{x:Value}{j dj:Nat}{b:Bool}{op:Op}{ty:TypeId}{pos:String}{after:Array Edge}{os:List Oper}{d:Nat}{dr:List Nat}
  (hj:Rs[j]? = some (fun v _=>v=cnd c (.bool e))) (hdj:ds[j]? = some dj) (hop:(ops[j]?).bind (·.dst)=some dj) (Z:j∈depsOf ⟨some d,op,ty,pos,after,some (j,b)⟩) (hl:dj<t.length)
  (hk:(c&&(e==b))=true→∀ g w,Below w1.heap.size w1 w→AllR Rs ds g w (depsOf ⟨some d,op,ty,pos,after,some (j,b)⟩)→
   wpList P ops (DrawPost ⟨(fillD t ds g).toArray,df⟩ d w (fun v _=>v=x)) [⟨some d,op,ty,pos,after,none⟩] ⟨(fillD t ds g).toArray,df⟩ w)
  (h:DrawGoal P ops C t df ds w1 (Rs++[fun v _=>v=cnd (c&&(e==b)) x]) os dr):DrawGoal P ops C t df ds w1 Rs (⟨some d,op,ty,pos,after,some (j,b)⟩::os) (d::dr):=by
 refine draw_val (fun g w hb hdeps=>?_) h
 have hv:g dj=cnd c (.bool e):=rat_val (allR_get hdeps Z) hj hdj
 have ha:=fill_at (t:=t) (g:=g) (List.mem_of_getElem? hdj) hl
 rw[hv]at ha
 cases hc:(c&&(e==b)) with
 | true=>
  have hc':=hc
  simp only[Bool.and_eq_true]at hc'
  have hy:yielded ops (⟨(fillD t ds g).toArray,df⟩:Act).tmps j=some e:=yields_of hop (by rw[ha,hc'.1];rfl)
  refine single_run (by simp[Region.wanted,hy];simpa using hc'.2) ?_
  simpa [cnd] using hk hc g w hb hdeps
 | false=>
  refine single_skip ?_ rfl (by simp[cnd])
  cases c with
  | false=>
   have hy:yielded ops (⟨(fillD t ds g).toArray,df⟩:Act).tmps j=none:=yields_no hop (by rw[ha];rfl)
   simp[Region.wanted,hy]
  | true=>
   have hy:yielded ops (⟨(fillD t ds g).toArray,df⟩:Act).tmps j=some e:=yields_of hop (by rw[ha];rfl)
   simp[Region.wanted,hy];simpa using hc
theorem wp_pick_and {a:Act}{w:World}{rest:List Oper}{d:Option Tmp}{ty:TypeId}{pos:String}{after:Array Edge}{xc xa:Operand}{e e2:Bool}(h1:a.eval xc=.bool e) (h2:a.eval xa=cnd (e==true) (.bool e2))
  (h:wpList P ops Q rest (a.put d (.bool (e&&e2))) w):wpList P ops Q (⟨d,.pick xc xa (.const (.bool false)),ty,pos,after,none⟩::rest) a w:=
 wpList_val (o:=⟨d,.pick xc xa (.const (.bool false)),ty,pos,after,none⟩) (w':=w) rfl (by
  have hb:∀ v,a.eval (.const v)=v:=fun _=>rfl
  cases e<;>simp[execOp,asBool,h1,h2,hb,cnd]) h
theorem wp_pick_or {a:Act}{w:World}{rest:List Oper}{d:Option Tmp}{ty:TypeId}{pos:String}{after:Array Edge}{xc xa:Operand}{e e2:Bool}(h1:a.eval xc=.bool e) (h2:a.eval xa=cnd (e==false) (.bool e2))
  (h:wpList P ops Q rest (a.put d (.bool (e || e2))) w):wpList P ops Q (⟨d,.pick xc (.const (.bool true)) xa,ty,pos,after,none⟩::rest) a w:=
 wpList_val (o:=⟨d,.pick xc (.const (.bool true)) xa,ty,pos,after,none⟩) (w':=w) rfl (by
  have hb:∀ v,a.eval (.const v)=v:=fun _=>rfl
  cases e<;>simp[execOp,asBool,h1,h2,hb,cnd]) h
end
end Go.Proofs.YtplcndmdkabmeaaGreatDoor
namespace Go.Proofs.YtplcndmdkabmeaaGreatDoor
open Go.RowKit
section
variable {P : Program} {ops : Array Oper} {Q : Exit → Act → World → Prop}
def NormalTo (K:Act→World→Prop):Exit→Act→World→Prop:=fun e a w=>e=.normal∧K a w
theorem draw_inv {id:Nat}{a:Act}{w:World}{Inv:Array Bool→Act→World→Prop}(hm:P.follows .mixedOrders=true) (hord:Region.orderB ops=true) (h0:Inv (Array.replicate ops.size false) a w.drew)
  (hstep:∀ i o,ops[i]? = some o→∀ l a w,HeadInv .any ops ops.size l→Inv l a w→l.getD i true=false→(∀ j∈depsOf o,l.getD j false=true)→wpList P ops (NormalTo (Inv (l.setIfInBounds i true))) [o] a w)
  (hfin:∀ l a w,Inv l a w→(∀ i,i<ops.size→l.getD i false=true)→Q .normal a w):(Code.region id ops true).wp P Q a w:=by
 refine wp_region_any hm ?_
 have core:∀ (c:Nat) (l:Array Bool) (a:Act) (w:World),HeadInv .any ops ops.size l→((List.range ops.size).filter fun i=>!l.getD i true).length=c→Inv l a w→wpAny P .any ops Q c l a w:=by
  intro c
  induction c with
  | zero=>
   intro l a w inv hc hI
   have hall:∀ i,i<ops.size→l.getD i false=true:=by
    intro i hi
    have h0:=List.length_eq_zero_iff.1 hc
    have h1:i ∉ ((List.range ops.size).filter fun i=>!l.getD i true):=by rw[h0];simp
    have h2:l.getD i true=true:=by
     cases hg:l.getD i true with
     | true=>rfl
     | false=>exact(h1 (List.mem_filter.2 ⟨List.mem_range.2 hi,by simp[hg]⟩)).elim
    have hil:i<l.size:=by rw[inv.size];omega
    simp[hil]at h2 ⊢;exact h2
   refine⟨List.eq_nil_iff_forall_not_mem.2 fun i hi=>?_,hfin l a w hI hall⟩
   obtain⟨hun,o,hoi,_⟩:=mem_ready.1 hi
   have hi' : i<ops.size:=(Array.getElem?_eq_some_iff.1 hoi).1
   have h1:=hall i hi'
   rw[getD_both hun]at h1
   cases h1
  | succ c ih=>
   intro l a w inv hc hI
   obtain⟨i0,hi0,hu0⟩:∃ i,i<ops.size∧l.getD i true=false:=by
    cases hf:(List.range ops.size).filter fun i=>!l.getD i true with
    | nil=>rw[hf]at hc;cases hc
    | cons i r=>
     have:i∈(List.range ops.size).filter fun i=>!l.getD i true:=by rw[hf];exact List.mem_cons_self
     obtain⟨h1,h2⟩:=List.mem_filter.1 this
     exact⟨i,List.mem_range.1 h1,by simpa using h2⟩
   refine⟨fun h=>absurd h (ready_some hord (Nat.le_refl _) inv.size i0 hi0 hu0),fun i hi=>?_⟩
   obtain⟨hun,o,hoi,hall⟩:=mem_ready.1 hi
   have hi' : i<ops.size:=(Array.getElem?_eq_some_iff.1 hoi).1
   have hdeps:∀ j∈depsOf o,l.getD j false=true:=fun j hj=>by
    obtain⟨e,he,hbd,rfl⟩:=depsOf_mem hj
    exact hall e he hbd
   refine wpOp_of_single hoi (fun _ _ _ h=>by cases h.1) (fun _ _ h=>by cases h.1) (fun a' w' h=>?_) (hstep i o hoi l a w inv hI hun hdeps)
   have hcount:=filter_one (p:=fun k=>!l.getD k true) (p':=fun k=>!(l.setIfInBounds i true).getD k true) (i:=i) (List.range ops.size) List.nodup_range (List.mem_range.2 hi') (by simp[hun])
    (by
     have:i<l.size:=by rw[inv.size];omega
     simp[this])
    (fun k hk=>by rw[getD_set_ne true (Ne.symm hk)])
   exact ih _ _ _ (inv.set hi hi') (by omega) h.2
 have h:=core ops.size (Array.replicate ops.size false) a w.drew ⟨by simp,fun j oj _ hl=>(by rw[getD_replicate_false]at hl;cases hl),fun k _ hk=>(by simp[hk])⟩
  (by
   have:((List.range ops.size).filter fun i=>!(Array.replicate ops.size false).getD i true)=List.range ops.size:=by
    rw[List.filter_eq_self]
    intro i hi
    have:i<ops.size:=List.mem_range.1 hi
    simp[this]
   rw[this];simp) h0
 exact h
abbrev Yld:=Nat × Nat × Value
structure VarS where
 ia:Nat
 st:Nat
 d:Nat
 T:TypeId
 z:List Value
 c:List Value
def lst (l:Array Bool) (i:Nat):Bool:=l.getD i false
structure InvV (t:List Value) (df:List Deferred) (ds:List Nat) (xs:List Yld) (vs:List VarS) (w1:World) (l:Array Bool) (g:Nat→Value) (w:World):Prop where
 below:Below w1.heap.size w1 w
 vals:∀ e∈xs,lst l e.1=true→g e.2.1=e.2.2
 vars:∀ v∈vs,lst l v.ia=true→∃ b,w1.heap.size≤b∧g v.d=.pointer (some ⟨b,0,none⟩)∧w.heap[b]? = some (.cells (bif lst l v.st then v.c else v.z).toArray v.T (0,0))
 apart:∀ v∈vs,∀ u∈vs,v.ia≠u.ia→lst l v.ia=true→lst l u.ia=true→g v.d≠g u.d
def InvA (t:List Value) (df:List Deferred) (ds:List Nat) (xs:List Yld) (vs:List VarS) (w1:World) (l:Array Bool) (a:Act) (w:World):Prop:=
 ∃ g,a=⟨(fillD t ds g).toArray,df⟩∧InvV t df ds xs vs w1 l g w
def keysB (ds:List Nat) (xs:List Yld) (vs:List VarS):Bool:=
 let ks:=xs.map (fun e=>(e.1,e.2.1))++vs.map (fun v=>(v.ia,v.d))
 decide (ks.map (·.1)).Nodup&&decide (ks.map (·.2)).Nodup&&ks.all (fun k=>ds.contains k.2)&&decide ((vs.map (·.st)).Nodup)&&vs.all (fun v=>!(ks.map (·.1)).contains v.st)
theorem lst_set_ne {l:Array Bool}{i k:Nat}(h:k≠i):lst (l.setIfInBounds i true) k=lst l k:=getD_set_ne false (Ne.symm h)
theorem nodup_map_inj {α β:Type}{f:α→β}:∀ {l:List α},(l.map f).Nodup→∀ x∈l,∀ y∈l,f x=f y→x=y
 | [],_,x,hx,_,_,_=>by cases hx
 | a::l,h,x,hx,y,hy,he=>by
  simp only[List.map_cons,List.nodup_cons]at h
  rcases List.mem_cons.1 hx with hx1|hx1<;>rcases List.mem_cons.1 hy with hy1|hy1
  ·rw[hx1,hy1]
  ·exact(h.1 (List.mem_map.2 ⟨y,hy1,by rw[← he,hx1]⟩)).elim
  ·exact(h.1 (List.mem_map.2 ⟨x,hx1,by rw[he,hy1]⟩)).elim
  ·exact nodup_map_inj h.2 x hx1 y hy1 he
section
variable {t : List Value} {df : List Deferred} {ds : List Nat} {xs : List Yld} {vs : List VarS} {w1 : World} {l : Array Bool} {g : Nat → Value} {w : World} {i : Nat} {o : Oper}
theorem put_fill {d:Nat}{v:Value}(hd:d∈ds):(⟨(fillD t ds g).toArray,df⟩:Act).put (some d) v=⟨(fillD t ds (upd g d v)).toArray,df⟩:=by
 simp only[Act.put,List.setIfInBounds_toArray]
 rw[fillD_set hd]
theorem inv_val {d:Nat}{x:Value}(hk:keysB ds xs vs=true) (hx:(i,d,x)∈xs) (hI:InvV t df ds xs vs w1 l g w) (hun:l.getD i true=false)
  (h:wpList P ops (DrawPost ⟨(fillD t ds g).toArray,df⟩ d w (fun v _=>v=x)) [o] ⟨(fillD t ds g).toArray,df⟩ w):
  wpList P ops (NormalTo (InvA t df ds xs vs w1 (l.setIfInBounds i true))) [o] ⟨(fillD t ds g).toArray,df⟩ w:=by
 simp only[keysB,Bool.and_eq_true,decide_eq_true_eq]at hk
 obtain⟨⟨⟨⟨k1,k2⟩,k3⟩,k4⟩,k5⟩:=hk
 have hdd:d∈ds:=by
  have:=List.all_eq_true.1 k3 (i,d) (List.mem_append.2 (.inl (List.mem_map.2 ⟨_,hx,rfl⟩)))
  simpa using this
 refine wpList_glue (rest:=[]) (fun _ _ _ h=>by cases h.1) (fun _ _ h=>by cases h.1) (fun a' w' he=>?_) h
 show NormalTo _ .normal a' w'
 obtain⟨_,v,rfl,hb,rfl⟩:=he
 refine⟨rfl,upd g d v,put_fill hdd,hI.below.trans (hb.mono hI.below.size),fun e he hl=>?_,fun u hu hl=>?_,fun u hu u' hu' hne hl hl'=>?_⟩
 ·by_cases hei:e.1=i
  ·have:(e.1,e.2.1)=(i,d):=nodup_map_inj k1 _ (List.mem_append.2 (.inl (List.mem_map.2 ⟨e,he,rfl⟩))) _ (List.mem_append.2 (.inl (List.mem_map.2 ⟨_,hx,rfl⟩))) hei
   have hxs:(xs.map (·.1)).Nodup:=by
    have h1:(xs.map (·.1)++vs.map (·.ia)).Nodup:=by rw[List.map_append,List.map_map,List.map_map]at k1;exact k1
    exact(List.nodup_append.1 h1).1
   have hee:e=(i,d,v):=nodup_map_inj hxs e he _ hx hei
   subst hee
   simp[upd]
  ·rw[lst_set_ne hei]at hl
   have hne:e.2.1≠d:=fun hd=>by
    have:(e.1,e.2.1)=(i,d):=nodup_map_inj k2 _ (List.mem_append.2 (.inl (List.mem_map.2 ⟨e,he,rfl⟩))) _ (List.mem_append.2 (.inl (List.mem_map.2 ⟨_,hx,rfl⟩))) hd
    exact hei (congrArg Prod.fst this)
   simp only[upd,if_neg hne]
   exact hI.vals e he hl
 all_goals
  have key:∀ u∈vs,u.ia≠i∧u.st≠i∧u.d≠d:=fun u hu=>by
   refine⟨fun h=>?_,fun h=>?_,fun h=>?_⟩
   ·have hnd:(xs.map (·.1)++vs.map (·.ia)).Nodup:=by rw[List.map_append,List.map_map,List.map_map]at k1;exact k1
    exact(List.nodup_append.1 hnd).2.2 i (List.mem_map.2 ⟨_,hx,rfl⟩) u.ia (List.mem_map.2 ⟨u,hu,rfl⟩) h.symm
   ·have:=List.all_eq_true.1 k5 u hu
    simp only[Bool.not_eq_true',List.contains_eq_mem,decide_eq_false_iff_not]at this
    exact this (List.mem_map.2 ⟨(i,d),List.mem_append.2 (.inl (List.mem_map.2 ⟨_,hx,rfl⟩)),h.symm⟩)
   ·have hnd:(xs.map (·.2.1)++vs.map (·.d)).Nodup:=by rw[List.map_append,List.map_map,List.map_map]at k2;exact k2
    exact(List.nodup_append.1 hnd).2.2 d (List.mem_map.2 ⟨_,hx,rfl⟩) u.d (List.mem_map.2 ⟨u,hu,rfl⟩) h.symm
 ·obtain⟨e1,e2,e3⟩:=key u hu
  rw[lst_set_ne e1]at hl
  obtain⟨b,h1,h2,h3⟩:=hI.vars u hu hl
  refine⟨b,h1,by simp only[upd,if_neg e3];exact h2,?_⟩
  rw[lst_set_ne e2,hb.block _ (heap_lt h3)];exact h3
 ·obtain⟨e1,e2,e3⟩:=key u hu
  obtain⟨f1,f2,f3⟩:=key u' hu'
  rw[lst_set_ne e1]at hl
  rw[lst_set_ne f1]at hl'
  simp only[upd,if_neg e3,if_neg f3]
  exact hI.apart u hu u' hu' hne hl hl'
theorem lst_set_self {l:Array Bool}(h:i<l.size):lst (l.setIfInBounds i true) i=true:=by simp[lst,h]
theorem vs_inj (hk:keysB ds xs vs=true) {u v:VarS}(hu:u∈vs) (hv:v∈vs) (h:u.ia=v.ia∨u.st=v.st∨u.d=v.d):u=v:=by
 simp only[keysB,Bool.and_eq_true,decide_eq_true_eq]at hk
 obtain⟨⟨⟨⟨k1,k2⟩,_⟩,k4⟩,_⟩:=hk
 have h1:(xs.map (·.1)++vs.map (·.ia)).Nodup:=by rw[List.map_append,List.map_map,List.map_map]at k1;exact k1
 have h2:(xs.map (·.2.1)++vs.map (·.d)).Nodup:=by rw[List.map_append,List.map_map,List.map_map]at k2;exact k2
 rcases h with h|h|h
 ·exact nodup_map_inj (List.nodup_append.1 h1).2.1 u hu v hv h
 ·exact nodup_map_inj k4 u hu v hv h
 ·exact nodup_map_inj (List.nodup_append.1 h2).2.1 u hu v hv h
theorem xs_ne (hk:keysB ds xs vs=true) {e:Yld}(he:e∈xs) {v:VarS}(hv:v∈vs):e.1≠v.ia∧e.2.1≠v.d∧e.1≠v.st:=by
 simp only[keysB,Bool.and_eq_true,decide_eq_true_eq]at hk
 obtain⟨⟨⟨⟨k1,k2⟩,_⟩,_⟩,k5⟩:=hk
 have h1:(xs.map (·.1)++vs.map (·.ia)).Nodup:=by rw[List.map_append,List.map_map,List.map_map]at k1;exact k1
 have h2:(xs.map (·.2.1)++vs.map (·.d)).Nodup:=by rw[List.map_append,List.map_map,List.map_map]at k2;exact k2
 refine⟨(List.nodup_append.1 h1).2.2 _ (List.mem_map.2 ⟨e,he,rfl⟩) _ (List.mem_map.2 ⟨v,hv,rfl⟩),(List.nodup_append.1 h2).2.2 _ (List.mem_map.2 ⟨e,he,rfl⟩) _ (List.mem_map.2 ⟨v,hv,rfl⟩),fun h=>?_⟩
 have:=List.all_eq_true.1 k5 v hv
 simp only[Bool.not_eq_true',List.contains_eq_mem,decide_eq_false_iff_not]at this
 exact this (List.mem_map.2 ⟨(e.1,e.2.1),List.mem_append.2 (.inl (List.mem_map.2 ⟨_,he,rfl⟩)),h⟩)
theorem ia_st (hk:keysB ds xs vs=true) {u v:VarS}(hu:u∈vs) (hv:v∈vs):u.ia≠v.st:=by
 simp only[keysB,Bool.and_eq_true,decide_eq_true_eq]at hk
 intro h
 have:=List.all_eq_true.1 hk.2 v hv
 simp only[Bool.not_eq_true',List.contains_eq_mem,decide_eq_false_iff_not]at this
 exact this (List.mem_map.2 ⟨(u.ia,u.d),List.mem_append.2 (.inr (List.mem_map.2 ⟨_,hu,rfl⟩)),h⟩)
theorem d_mem (hk:keysB ds xs vs=true) {v:VarS}(hv:v∈vs):v.d∈ds:=by
 simp only[keysB,Bool.and_eq_true,decide_eq_true_eq]at hk
 have:=List.all_eq_true.1 hk.1.1.2 (v.ia,v.d) (List.mem_append.2 (.inr (List.mem_map.2 ⟨_,hv,rfl⟩)))
 simpa using this
theorem inv_new {v:VarS}{ty:TypeId}{pos:String}{after:Array Edge}(hk:keysB ds xs vs=true) (hv:v∈vs) (hz:ZeroT P v.T v.z) (hI:InvV t df ds xs vs w1 l g w) (hst:lst l v.st=false) (hs:v.ia<l.size):
  wpList P ops (NormalTo (InvA t df ds xs vs w1 (l.setIfInBounds v.ia true))) [⟨some v.d,.alloc v.T,ty,pos,after,none⟩] ⟨(fillD t ds g).toArray,df⟩ w:=by
 refine loc_alloc (Loc.start w) rfl hz ?_
 intro b w' hL
 show NormalTo _ .normal _ _
 have hb:=hL.below
 have hge:w.heap.size≤b:=hL.ids (b,v.T,v.z) List.mem_cons_self
 have hcell:w'.heap[b]? = some (.cells v.z.toArray v.T (0,0)):=hL.cells (b,v.T,v.z) List.mem_cons_self
 have hne:∀ u∈vs,u.ia≠v.ia→u.d≠v.d:=fun u hu h hd=>h (congrArg VarS.ia (vs_inj hk hu hv (.inr (.inr hd))))
 have old:∀ u∈vs,u.ia≠v.ia→lst (l.setIfInBounds v.ia true) u.ia=true→∃ b',w1.heap.size≤b'∧b' < w.heap.size∧g u.d=.pointer (some ⟨b',0,none⟩)∧w'.heap[b']? = some (.cells (bif lst l u.st then u.c else u.z).toArray u.T (0,0)):=by
  intro u hu h hl
  rw[lst_set_ne h]at hl
  obtain⟨b',h1,h2,h3⟩:=hI.vars u hu hl
  exact⟨b',h1,heap_lt h3,h2,by rw[hb.block _ (heap_lt h3)];exact h3⟩
 refine⟨rfl,upd g v.d _,put_fill (d_mem hk hv),hI.below.trans (hb.mono hI.below.size),fun e he hl=>?_,fun u hu hl=>?_,fun u hu u' hu' hne' hl hl'=>?_⟩
 ·obtain⟨e1,e2,e3⟩:=xs_ne hk he hv
  rw[lst_set_ne e1]at hl
  simp only[upd,if_neg e2]
  exact hI.vals e he hl
 ·by_cases hui:u.ia=v.ia
  ·obtain rfl:=vs_inj hk hu hv (.inl hui)
   refine⟨b,Nat.le_trans hI.below.size hge,by simp[upd],?_⟩
   rw[lst_set_ne (ia_st hk hu hu).symm,hst];exact hcell
  ·obtain⟨b',h1,h2,h3,h4⟩:=old u hu hui hl
   refine⟨b',h1,by simp only[upd,if_neg (hne u hu hui)];exact h3,?_⟩
   rw[lst_set_ne (ia_st hk hv hu).symm];exact h4
 ·by_cases hui:u.ia=v.ia
  ·obtain rfl:=vs_inj hk hu hv (.inl hui)
   obtain⟨b',h1,h2,h3,h4⟩:=old u' hu' (fun h=>hne' h.symm) hl'
   simp only[upd,if_pos,if_neg (hne u' hu' (fun h=>hne' h.symm))]
   rw[h3];simp;try omega
  ·by_cases hui' : u'.ia=v.ia
   ·obtain rfl:=vs_inj hk hu' hv (.inl hui')
    obtain⟨b',h1,h2,h3,h4⟩:=old u hu hui hl
    simp only[upd,if_pos,if_neg (hne u hu hui)]
    rw[h3];simp;try omega
   ·rw[lst_set_ne hui]at hl
    rw[lst_set_ne hui']at hl'
    simp only[upd,if_neg (hne u hu hui),if_neg (hne u' hu' hui')]
    exact hI.apart u hu u' hu' hne' hl hl'
theorem inv_put {v:VarS}{y:Operand}{ty:TypeId}{pos:String}{after:Array Edge}(hk:keysB ds xs vs=true) (hv:v∈vs) (hI:InvV t df ds xs vs w1 l g w) (hst:lst l v.st=false) (hs:v.st<l.size) (hia:lst l v.ia=true) (hdl:v.d<t.length)
  (hT:SizeT P v.T v.c.length) (hcz:v.c.length=v.z.length) (h1:v.c.all (·.oneCell')=true) (hy:((⟨(fillD t ds g).toArray,df⟩:Act).eval y).cells.toList=v.c):
  wpList P ops (NormalTo (InvA t df ds xs vs w1 (l.setIfInBounds v.st true))) [⟨none,.store v.T (.tmp v.d) y,ty,pos,after,none⟩] ⟨(fillD t ds g).toArray,df⟩ w:=by
 obtain⟨b,hb1,hb2,hb3⟩:=hI.vars v hv hia
 rw[hst]at hb3
 have hx:(⟨(fillD t ds g).toArray,df⟩:Act).eval (.tmp v.d)=.pointer (some ⟨b,0,none⟩):=by
  rw[← hb2]
  have:=fill_at (t:=t) (g:=g) (d_mem hk hv) hdl
  simp[Act.eval,this]
 let S:Datum:=fun w'=>∀ u∈vs,u.ia≠v.ia→lst l u.ia=true→∃ b',g u.d=.pointer (some ⟨b',0,none⟩)∧w1.heap.size≤b'∧w'.heap[b']? = some (.cells (bif lst l u.st then u.c else u.z).toArray u.T (0,0))
 have hL:Loc w1 w [(b,v.T,v.z)] [S]:=by
  refine⟨hI.below,by simp,fun e he=>by rw[List.mem_singleton.1 he];exact hb1,fun e he=>by rw[List.mem_singleton.1 he];exact hb3,fun S' hS'=>?_⟩
  rw[List.mem_singleton.1 hS']
  refine⟨fun k=>∃ u∈vs,u.ia≠v.ia∧lst l u.ia=true∧g u.d=.pointer (some ⟨k,0,none⟩)∧k<w.heap.size∧w1.heap.size≤k,fun k hk'=>?_,fun w' hw' u hu hne hl=>?_⟩
  ·obtain⟨u,hu,hne,hl,hg,hlt,hge⟩:=hk'
   refine⟨⟨hlt,hge⟩,fun e he hek=>?_⟩
   rw[List.mem_singleton.1 he]at hek
   dsimp only at hek
   subst hek
   exact hI.apart u hu v hv hne hl hia (hg.trans hb2.symm)
  ·obtain⟨b',h1',h2',h3'⟩:=hI.vars u hu hl
   exact⟨b',h2',h1',by rw[hw' b' ⟨u,hu,hne,hl,h2',heap_lt h3',h1'⟩];exact h3'⟩
 refine loc_store (cs':=v.c) hL rfl hx .head hy hT h1 (by omega) (by simp[spliced,hcz]) ?_
 intro w' hL'
 show NormalTo _ .normal _ _
 have hS:=hL'.get (S:=S) List.mem_cons_self
 have hcell:w'.heap[b]? = some (.cells v.c.toArray v.T (0,0)):=hL'.cells (b,v.T,v.c) List.mem_cons_self
 refine⟨rfl,g,rfl,hL'.below,fun e he hl=>?_,fun u hu hl=>?_,fun u hu u' hu' hne' hl hl'=>?_⟩
 ·rw[lst_set_ne (xs_ne hk he hv).2.2]at hl
  exact hI.vals e he hl
 ·rw[lst_set_ne (ia_st hk hu hv)]at hl
  by_cases hui:u.ia=v.ia
  ·obtain rfl:=vs_inj hk hu hv (.inl hui)
   exact⟨b,hb1,hb2,by rw[lst_set_self hs];exact hcell⟩
  ·obtain⟨b',h1',h2',h3'⟩:=hS u hu hui hl
   have hus:u.st≠v.st:=fun h=>hui (congrArg VarS.ia (vs_inj hk hu hv (.inr (.inl h))))
   exact⟨b',h2',h1',by rw[lst_set_ne hus];exact h3'⟩
 ·rw[lst_set_ne (ia_st hk hu hv)]at hl
  rw[lst_set_ne (ia_st hk hu' hv)]at hl'
  exact hI.apart u hu u' hu' hne' hl hl'
end
section
def StepsFrom (K:Nat→Oper→Prop):Nat→List Oper→Prop
 | _,[]=>True
 | k,o::os=>K k o∧StepsFrom K (k+1) os
theorem steps_get {K:Nat→Oper→Prop}:∀ {os:List Oper}{k i:Nat}{o:Oper},StepsFrom K k os→os[i]? = some o→K (k+i) o
 | [],_,_,_,_,h=>by simp at h
 | x::os,k,0,o,hS,h=>by simp at h;subst h;exact hS.1
 | x::os,k,i+1,o,hS,h=>by
  have:=steps_get (k:=k+1) (i:=i) (o:=o) hS.2 (by simpa using h)
  rwa [show k+1+i=k+(i+1) by omega]at this
def StepV (P:Program) (ops:Array Oper) (t:List Value) (df:List Deferred) (ds:List Nat) (xs:List Yld) (vs:List VarS) (w1:World) (i:Nat) (o:Oper):Prop:=
 keysB ds xs vs=true→∀ l g w,ops.size=l.size→i<l.size→InvV t df ds xs vs w1 l g w→(∀ v∈vs,lst l v.st=true→lst l v.ia=true)→l.getD i true=false→(∀ j∈depsOf o,lst l j=true)→
  wpList P ops (NormalTo (InvA t df ds xs vs w1 (l.setIfInBounds i true))) [o] ⟨(fillD t ds g).toArray,df⟩ w
def storeB (ops:Array Oper) (vs:List VarS):Bool:=vs.all fun v=>match ops[v.st]? with|some o=>o.after.any fun e=>Region.binds .any e&&e.on==v.ia|none=>false
variable {t : List Value} {df : List Deferred} {xs : List Yld} {vs : List VarS} {w1 : World}
theorem draw_vars {id:Nat}{l0:List Oper}(ds:List Nat) (hm:P.follows .mixedOrders=true) (hsteps:StepsFrom (StepV P l0.toArray t df ds xs vs w1) 0 l0) (hk:keysB ds xs vs=true) (hord:Region.orderB l0.toArray=true) (hsb:storeB l0.toArray vs=true)
  (hfin:∀ g w,Below w1.heap.size w1 w→(∀ e∈xs,e.1<l0.length→g e.2.1=e.2.2)→(∀ v∈vs,v.ia<l0.length→v.st<l0.length→∃ b,w1.heap.size≤b∧g v.d=.pointer (some ⟨b,0,none⟩)∧w.heap[b]? = some (.cells v.c.toArray v.T (0,0)))→
   (∀ v∈vs,∀ u∈vs,v.ia≠u.ia→v.ia<l0.length→u.ia<l0.length→g v.d≠g u.d)→wpList P l0.toArray Q [] ⟨(fillD t ds g).toArray,df⟩ w):
  (Code.region id l0.toArray true).wp P Q ⟨t.toArray,df⟩ w1:=by
 refine draw_inv (Inv:=InvA t df ds xs vs w1) hm hord ?_ ?_ ?_
 ·refine⟨fun d=>t.getD d undef,by rw[fillD_self],(Below.refl _ _).drew,fun e _ hl=>?_,fun v _ hl=>?_,fun v _ u _ _ hl=>?_⟩<;>
   ·unfold lst at hl;rw[getD_replicate_false]at hl;cases hl
 ·intro i o hi l a w inv hA hun Z
  obtain⟨g,rfl,hI⟩:=hA
  have hi' : i<l0.toArray.size:=(Array.getElem?_eq_some_iff.1 hi).1
  have:=steps_get (K:=StepV P l0.toArray t df ds xs vs w1) (k:=0) (i:=i) (o:=o) hsteps (by simpa using hi)
  rw[Nat.zero_add]at this
  refine this hk l g w inv.size.symm (by rw[inv.size];exact hi') hI (fun v hv hst=>?_) hun Z
  have hs:=List.all_eq_true.1 hsb v hv
  cases ho:l0.toArray[v.st]? with
  | none=>rw[ho]at hs;cases hs
  | some o'=>
   rw[ho]at hs
   obtain⟨e,he,hb⟩:=Array.any_eq_true'.1 hs
   simp only[Bool.and_eq_true,beq_iff_eq]at hb
   have:=inv.closed v.st o' ho hst e he hb.1
   rw[hb.2]at this;exact this
 ·intro l a w hA hall
  obtain⟨g,rfl,hI⟩:=hA
  have hall' : ∀ i,i<l0.length→lst l i=true:=fun i hi=>hall i (by simpa using hi)
  refine hfin g w hI.below (fun e he hi=>hI.vals e he (hall' _ hi)) (fun v hv h1 h2=>?_) (fun v hv u hu hne h1 h2=>hI.apart v hv u hu hne (hall' _ h1) (hall' _ h2))
  obtain⟨b,e1,e2,e3⟩:=hI.vars v hv (hall' _ h1)
  rw[hall' _ h2]at e3
  exact⟨b,e1,e2,e3⟩
end
end
end Go.Proofs.YtplcndmdkabmeaaGreatDoor
namespace Go.Proofs.YtplcndmdkabmeaaGreatDoor
open Go.RowKit
section
variable {P : Program} {ops : Array Oper} {Q : Exit → Act → World → Prop} {a : Act} {w0 w : World} {rest : List Oper} {L : List LBlk} {D : List Datum}
 {d:Option Tmp} {ty:TypeId} {pos:String} {after:Array Edge} {g:Option (Nat × Bool)}
theorem lld {T:TypeId}{x:Operand}{b off:Nat}{Tb:TypeId}{cs:List Value}{f:List Value→List LBlk}{v:Value}(hL:Loc w0 w L D) (h:wpList P ops Q rest (a.put d v) w) (hg:Nat.beq T T=true:=by decide)
  (hx:a.eval x=.pointer (some ⟨b,off,none⟩):=by with_unfolding_all rfl) (hm:InL b Tb cs L f:=by with_unfolding_all ((repeat (first|exact InL.head|apply InL.tail))<;>fail)) (hv:Reads P T cs off v:=by with_unfolding_all (first|exact Reads.cell tInt rfl|exact Reads.cell tBool rfl|exact Reads.cell tErrno rfl|exact Reads.cell tStr rfl|exact Reads.cell tInstrs rfl|exact Reads.cell tValues rfl|exact Reads.cell tThings rfl|exact Reads.cell tStrs rfl|exact Reads.cell tInts rfl|exact Reads.cell tFun rfl|exact Reads.cell tGuesses rfl|exact Reads.cell tBools rfl|exact Reads.cell tRows rfl|exact Reads.cell tPics rfl|exact Reads.cell tEdges rfl|exact Reads.cell tAlarms rfl|exact Reads.agg tValue (by simp only[List.drop_zero,List.drop_succ_cons,List.take_succ_cons,List.take_zero];rfl) rfl|exact Reads.agg tThing (by simp only[List.drop_zero,List.drop_succ_cons,List.take_succ_cons,List.take_zero];rfl) rfl|exact Reads.agg tRun (by simp only[List.drop_zero,List.drop_succ_cons,List.take_succ_cons,List.take_zero];rfl) rfl|exact Reads.agg tSpan (by simp only[List.drop_zero,List.drop_succ_cons,List.take_succ_cons,List.take_zero];rfl) rfl|exact Reads.agg tProg (by simp only[List.drop_zero,List.drop_succ_cons,List.take_succ_cons,List.take_zero];rfl) rfl|exact Reads.agg tInstr (by simp only[List.drop_zero,List.drop_succ_cons,List.take_succ_cons,List.take_zero];rfl) rfl|exact Reads.agg tGuess (by simp only[List.drop_zero,List.drop_succ_cons,List.take_succ_cons,List.take_zero];rfl) rfl|exact Reads.agg tShape (by simp only[List.drop_zero,List.drop_succ_cons,List.take_succ_cons,List.take_zero];rfl) rfl|exact Reads.agg tPic (by simp only[List.drop_zero,List.drop_succ_cons,List.take_succ_cons,List.take_zero];rfl) rfl|exact Reads.agg tEdge (by simp only[List.drop_zero,List.drop_succ_cons,List.take_succ_cons,List.take_zero];rfl) rfl|exact Reads.agg tAlarm (by simp only[List.drop_zero,List.drop_succ_cons,List.take_succ_cons,List.take_zero];rfl) rfl))
  (hw:Region.wanted ⟨d,.load T x,ty,pos,after,g⟩ (yielded ops a.tmps)=true:=by with_unfolding_all (first|(with_reducible exact want0)|(refine want1 rfl ?_;(simp only[Act.put,List.setIfInBounds_toArray,List.set_cons_zero,List.set_cons_succ,List.getElem?_toArray,List.getElem?_cons_succ,List.getElem?_cons_zero]);done)|(refine want1 rfl ?_;(simp only[Act.put,List.setIfInBounds_toArray,List.set_cons_zero,List.set_cons_succ,List.getElem?_toArray,List.getElem?_cons_succ,List.getElem?_cons_zero,Option.some.injEq,Value.bool.injEq]);assumption))):wpList P ops Q (⟨d,.load T x,ty,pos,after,g⟩::rest) a w:=loc_load hL hw hx hm hv h
theorem ldD {T:TypeId}{x:Operand}{b off:Nat}{Tb:TypeId}{cs:List Value}{v:Value}(hL:Loc w0 w L D) (h:wpList P ops Q rest (a.put d v) w) (hg:Nat.beq T T=true:=by decide)
  (hx:a.eval x=.pointer (some ⟨b,off,none⟩):=by with_unfolding_all rfl) (hm:HeapAt b Tb cs∈D:=by with_unfolding_all ((repeat (first|exact List.mem_cons_self|apply List.mem_cons_of_mem))<;>fail)) (hv:Reads P T cs off v:=by with_unfolding_all (first|exact Reads.cell tInt rfl|exact Reads.cell tBool rfl|exact Reads.cell tErrno rfl|exact Reads.cell tStr rfl|exact Reads.cell tInstrs rfl|exact Reads.cell tValues rfl|exact Reads.cell tThings rfl|exact Reads.cell tStrs rfl|exact Reads.cell tInts rfl|exact Reads.cell tFun rfl|exact Reads.cell tGuesses rfl|exact Reads.cell tBools rfl|exact Reads.cell tRows rfl|exact Reads.cell tPics rfl|exact Reads.cell tEdges rfl|exact Reads.cell tAlarms rfl|exact Reads.agg tValue (by simp only[List.drop_zero,List.drop_succ_cons,List.take_succ_cons,List.take_zero];rfl) rfl|exact Reads.agg tThing (by simp only[List.drop_zero,List.drop_succ_cons,List.take_succ_cons,List.take_zero];rfl) rfl|exact Reads.agg tRun (by simp only[List.drop_zero,List.drop_succ_cons,List.take_succ_cons,List.take_zero];rfl) rfl|exact Reads.agg tSpan (by simp only[List.drop_zero,List.drop_succ_cons,List.take_succ_cons,List.take_zero];rfl) rfl|exact Reads.agg tProg (by simp only[List.drop_zero,List.drop_succ_cons,List.take_succ_cons,List.take_zero];rfl) rfl|exact Reads.agg tInstr (by simp only[List.drop_zero,List.drop_succ_cons,List.take_succ_cons,List.take_zero];rfl) rfl|exact Reads.agg tGuess (by simp only[List.drop_zero,List.drop_succ_cons,List.take_succ_cons,List.take_zero];rfl) rfl|exact Reads.agg tShape (by simp only[List.drop_zero,List.drop_succ_cons,List.take_succ_cons,List.take_zero];rfl) rfl|exact Reads.agg tPic (by simp only[List.drop_zero,List.drop_succ_cons,List.take_succ_cons,List.take_zero];rfl) rfl|exact Reads.agg tEdge (by simp only[List.drop_zero,List.drop_succ_cons,List.take_succ_cons,List.take_zero];rfl) rfl|exact Reads.agg tAlarm (by simp only[List.drop_zero,List.drop_succ_cons,List.take_succ_cons,List.take_zero];rfl) rfl))
  (hw:Region.wanted ⟨d,.load T x,ty,pos,after,g⟩ (yielded ops a.tmps)=true:=by with_unfolding_all (first|(with_reducible exact want0)|(refine want1 rfl ?_;(simp only[Act.put,List.setIfInBounds_toArray,List.set_cons_zero,List.set_cons_succ,List.getElem?_toArray,List.getElem?_cons_succ,List.getElem?_cons_zero]);done)|(refine want1 rfl ?_;(simp only[Act.put,List.setIfInBounds_toArray,List.set_cons_zero,List.set_cons_succ,List.getElem?_toArray,List.getElem?_cons_succ,List.getElem?_cons_zero,Option.some.injEq,Value.bool.injEq]);assumption))):wpList P ops Q (⟨d,.load T x,ty,pos,after,g⟩::rest) a w:=loc_loadD hL hw hx hm hv h
theorem lbx {T:TypeId}{x:Operand}{cs:List Value}(hL:Loc w0 w L D) (h:∀ b w',Loc w0 w' ((b,T,cs)::L) D→wpList P ops Q rest (a.put d (.pointer (some ⟨b,0,none⟩))) w') (hg:Nat.beq T T=true:=by decide)
  (hx:(a.eval x).cells.toList=cs:=by with_unfolding_all ((first|(simp only[Act.eval,Act.put,Span.v,Value.cells,Array.getD_eq_getD_getElem?,List.getElem?_toArray,List.getElem?_cons_zero,List.getElem?_cons_succ,Option.getD_some,List.setIfInBounds_toArray,List.set_cons_zero,List.set_cons_succ];rfl)|rfl))) (hw:Region.wanted ⟨d,.box T x,ty,pos,after,g⟩ (yielded ops a.tmps)=true:=by with_unfolding_all (first|(with_reducible exact want0)|(refine want1 rfl ?_;(simp only[Act.put,List.setIfInBounds_toArray,List.set_cons_zero,List.set_cons_succ,List.getElem?_toArray,List.getElem?_cons_succ,List.getElem?_cons_zero]);done)|(refine want1 rfl ?_;(simp only[Act.put,List.setIfInBounds_toArray,List.set_cons_zero,List.set_cons_succ,List.getElem?_toArray,List.getElem?_cons_succ,List.getElem?_cons_zero,Option.some.injEq,Value.bool.injEq]);assumption))):wpList P ops Q (⟨d,.box T x,ty,pos,after,g⟩::rest) a w:=loc_box hL hw hx h
theorem lal {T:TypeId}{cs:List Value}(hL:Loc w0 w L D) (h:∀ b w',Loc w0 w' ((b,T,cs)::L) D→wpList P ops Q rest (a.put d (.pointer (some ⟨b,0,none⟩))) w') (hg:Nat.beq T T=true:=by decide)
  (hz:ZeroT P T cs:=by with_unfolding_all (first|exact zGuess|exact zPic|exact zEdge|exact zAlarm|exact zProg|exact zSpan|exact zInstr|exact zShape|exact zValue|exact zThing|exact zRun|exact zFun)) (hw:Region.wanted ⟨d,.alloc T,ty,pos,after,g⟩ (yielded ops a.tmps)=true:=by with_unfolding_all (first|(with_reducible exact want0)|(refine want1 rfl ?_;(simp only[Act.put,List.setIfInBounds_toArray,List.set_cons_zero,List.set_cons_succ,List.getElem?_toArray,List.getElem?_cons_succ,List.getElem?_cons_zero]);done)|(refine want1 rfl ?_;(simp only[Act.put,List.setIfInBounds_toArray,List.set_cons_zero,List.set_cons_succ,List.getElem?_toArray,List.getElem?_cons_succ,List.getElem?_cons_zero,Option.some.injEq,Value.bool.injEq]);assumption))):wpList P ops Q (⟨d,.alloc T,ty,pos,after,g⟩::rest) a w:=loc_alloc hL hw hz h
theorem lst' {T:TypeId}{x y:Operand}{b off:Nat}{Tb:TypeId}{cs vs cs' : List Value}{f:List Value→List LBlk}(hL:Loc w0 w L D) (h:∀ w',Loc w0 w' (f cs') D→wpList P ops Q rest (a.put d undef) w') (hg:Nat.beq T T=true:=by decide)
  (hx:a.eval x=.pointer (some ⟨b,off,none⟩):=by with_unfolding_all rfl) (hm:InL b Tb cs L f:=by with_unfolding_all ((repeat (first|exact InL.head|apply InL.tail))<;>fail)) (hy:(a.eval y).cells.toList=vs:=by with_unfolding_all ((first|(simp only[Act.eval,Act.put,Span.v,Value.cells,Array.getD_eq_getD_getElem?,List.getElem?_toArray,List.getElem?_cons_zero,List.getElem?_cons_succ,Option.getD_some,List.setIfInBounds_toArray,List.set_cons_zero,List.set_cons_succ];rfl)|rfl))) (hT:SizeT P T vs.length:=by with_unfolding_all (first|exact tInt.sz|exact tBool.sz|exact tErrno.sz|exact tStr.sz|exact tInstrs.sz|exact tSpan.sz|exact tProg.sz|exact tInstr.sz|exact tShape.sz|exact tValue.sz|exact tThing.sz|exact tRun.sz|exact tValues.sz|exact tThings.sz|exact tStrs.sz|exact tInts.sz|exact tFun.sz|exact tGuess.sz|exact tGuesses.sz|exact tBools.sz|exact tRows.sz|exact tPic.sz|exact tPics.sz|exact tEdge.sz|exact tEdges.sz|exact tAlarm.sz|exact tAlarms.sz))
  (h1:vs.all (·.oneCell')=true:=by with_unfolding_all rfl) (ho:off+vs.length≤cs.length:=by with_unfolding_all (simp<;>fail)) (hs:spliced cs off vs=cs':=by with_unfolding_all (simp only[spliced,List.take_zero,List.take_succ_cons,List.drop_zero,List.drop_succ_cons,List.drop_nil,List.nil_append,List.cons_append,List.append_nil,List.length_cons,List.length_nil,Nat.zero_add,Nat.reduceAdd];rfl))
  (hw:Region.wanted ⟨d,.store T x y,ty,pos,after,g⟩ (yielded ops a.tmps)=true:=by with_unfolding_all (first|(with_reducible exact want0)|(refine want1 rfl ?_;(simp only[Act.put,List.setIfInBounds_toArray,List.set_cons_zero,List.set_cons_succ,List.getElem?_toArray,List.getElem?_cons_succ,List.getElem?_cons_zero]);done)|(refine want1 rfl ?_;(simp only[Act.put,List.setIfInBounds_toArray,List.set_cons_zero,List.set_cons_succ,List.getElem?_toArray,List.getElem?_cons_succ,List.getElem?_cons_zero,Option.some.injEq,Value.bool.injEq]);assumption))):wpList P ops Q (⟨d,.store T x y,ty,pos,after,g⟩::rest) a w:=loc_store hL hw hx hm hy hT h1 ho hs h
theorem lbs {T E:TypeId}{n:Nat}{parts:Array (Nat × Operand)}{z cs:List Value}(hL:Loc w0 w L D) (h:∀ b w',Loc w0 w' ((b,E,cs)::L) D→wpList P ops Q rest (a.put d (.slice (some ⟨b,0,none⟩) n n)) w') (hg:Nat.beq T T=true:=by decide)
  (hT:SliceT P T E z:=by with_unfolding_all (first|exact sGuesses|exact sRows|exact sPics|exact sEdges|exact sAlarms|exact sBools|exact sInstrs|exact sInts|exact sSpans|exact sStrs)) (hn:n*z.length≤16777216:=by with_unfolding_all (simp<;>fail)) (h0:n*z.length≠0:=by with_unfolding_all (simp<;>fail)) (hi:parts.toList.map (·.1)=List.range' 0 n:=by with_unfolding_all rfl)
  (hf:(parts.toList.map (fun p=>(a.eval p.2).cells.toList)).flatten=cs:=by with_unfolding_all ((simp only[List.map_toArray,List.map_cons,List.map_nil,List.flatten_cons,List.flatten_nil,List.append_nil,List.nil_append,List.cons_append,Act.eval,Act.put,Span.v,Value.cells,Array.getD_eq_getD_getElem?,List.getElem?_toArray,List.getElem?_cons_zero,List.getElem?_cons_succ,Option.getD_some,List.setIfInBounds_toArray,List.set_cons_zero,List.set_cons_succ];rfl))) (hs:(parts.toList.map (fun p=>(a.eval p.2).cells.size)).all (· == z.length)=true:=by with_unfolding_all rfl)
  (hw:Region.wanted ⟨d,.buildSlice T n parts,ty,pos,after,g⟩ (yielded ops a.tmps)=true:=by with_unfolding_all (first|(with_reducible exact want0)|(refine want1 rfl ?_;(simp only[Act.put,List.setIfInBounds_toArray,List.set_cons_zero,List.set_cons_succ,List.getElem?_toArray,List.getElem?_cons_succ,List.getElem?_cons_zero]);done)|(refine want1 rfl ?_;(simp only[Act.put,List.setIfInBounds_toArray,List.set_cons_zero,List.set_cons_succ,List.getElem?_toArray,List.getElem?_cons_succ,List.getElem?_cons_zero,Option.some.injEq,Value.bool.injEq]);assumption))):wpList P ops Q (⟨d,.buildSlice T n parts,ty,pos,after,g⟩::rest) a w:=loc_buildSlice hL hw hT hn h0 hi hf hs h
end
section
theorem lhp {P:Program}{ops:Array Oper}{Q:Exit→Act→World→Prop}{a:Act}{w:World}{rest:List Oper}{d:Option Tmp}{ty:TypeId}{pos:String}{after:Array Edge}{gd:Option (Nat × Bool)}{T:TypeId}{x:Operand}{b off:Nat}{Tb:TypeId}{cs:List Value}{v:Value}
  (hh:w.heap[b]? = some (.cells cs.toArray Tb (0,0))) (h:wpList P ops Q rest (a.put d v) w) (hg:Nat.beq T T=true:=by decide) (hx:a.eval x=.pointer (some ⟨b,off,none⟩):=by with_unfolding_all rfl) (hv:Reads P T cs off v:=by with_unfolding_all (first|exact Reads.cell tInt rfl|exact Reads.cell tBool rfl|exact Reads.cell tErrno rfl|exact Reads.cell tStr rfl|exact Reads.cell tInstrs rfl|exact Reads.cell tValues rfl|exact Reads.cell tThings rfl|exact Reads.cell tStrs rfl|exact Reads.cell tInts rfl|exact Reads.cell tFun rfl|exact Reads.cell tGuesses rfl|exact Reads.cell tBools rfl|exact Reads.cell tRows rfl|exact Reads.cell tPics rfl|exact Reads.cell tEdges rfl|exact Reads.cell tAlarms rfl|exact Reads.agg tValue (by simp only[List.drop_zero,List.drop_succ_cons,List.take_succ_cons,List.take_zero];rfl) rfl|exact Reads.agg tThing (by simp only[List.drop_zero,List.drop_succ_cons,List.take_succ_cons,List.take_zero];rfl) rfl|exact Reads.agg tRun (by simp only[List.drop_zero,List.drop_succ_cons,List.take_succ_cons,List.take_zero];rfl) rfl|exact Reads.agg tSpan (by simp only[List.drop_zero,List.drop_succ_cons,List.take_succ_cons,List.take_zero];rfl) rfl|exact Reads.agg tProg (by simp only[List.drop_zero,List.drop_succ_cons,List.take_succ_cons,List.take_zero];rfl) rfl|exact Reads.agg tInstr (by simp only[List.drop_zero,List.drop_succ_cons,List.take_succ_cons,List.take_zero];rfl) rfl|exact Reads.agg tGuess (by simp only[List.drop_zero,List.drop_succ_cons,List.take_succ_cons,List.take_zero];rfl) rfl|exact Reads.agg tShape (by simp only[List.drop_zero,List.drop_succ_cons,List.take_succ_cons,List.take_zero];rfl) rfl|exact Reads.agg tPic (by simp only[List.drop_zero,List.drop_succ_cons,List.take_succ_cons,List.take_zero];rfl) rfl|exact Reads.agg tEdge (by simp only[List.drop_zero,List.drop_succ_cons,List.take_succ_cons,List.take_zero];rfl) rfl|exact Reads.agg tAlarm (by simp only[List.drop_zero,List.drop_succ_cons,List.take_succ_cons,List.take_zero];rfl) rfl))
  (hw:Region.wanted ⟨d,.load T x,ty,pos,after,gd⟩ (yielded ops a.tmps)=true:=by with_unfolding_all (first|(with_reducible exact want0)|(refine want1 rfl ?_;(simp only[Act.put,List.setIfInBounds_toArray,List.set_cons_zero,List.set_cons_succ,List.getElem?_toArray,List.getElem?_cons_succ,List.getElem?_cons_zero]);done)|(refine want1 rfl ?_;(simp only[Act.put,List.setIfInBounds_toArray,List.set_cons_zero,List.set_cons_succ,List.getElem?_toArray,List.getElem?_cons_succ,List.getElem?_cons_zero,Option.some.injEq,Value.bool.injEq]);assumption))):wpList P ops Q (⟨d,.load T x,ty,pos,after,gd⟩::rest) a w:=load_heap hh hw hx hv h
end
theorem wp_bin {P:Program}{ops:Array Oper}{Q:Exit→Act→World→Prop}{act:Act}{w w' : World}{rest:List Oper}{d:Option Tmp}{k:BinOp}{T ty u:TypeId}{pos:String}{after:Array Edge}{x y:Operand}{r:Value}
  (hg:(eqGuard k T x y (act.eval x) (act.eval y)).run P w=.ok () w) (hb:(binOp k T (act.eval x) (act.eval y)).run P w=.ok r w')
  (h:wpList P ops Q rest (act.put d r) w'):wpList P ops Q (⟨d,.binOp k T x y u,ty,pos,after,none⟩::rest) act w:=
 wpList_val (o:=⟨d,.binOp k T x y u,ty,pos,after,none⟩) (w':=w') rfl (by
  simp only[execOp]
  rw[Sem.run_bind,Sem.run_bind,hg]
  show Result.andThen (Sem.run P (binOp k T (act.eval x) (act.eval y)) w) _=_
  rw[hb]
  rfl) h
theorem cWant {p:Prop}(h:p:=by(first|(with_reducible exact want0)|(refine want1 rfl ?_;(simp only[Act.put,List.setIfInBounds_toArray,List.set_cons_zero,List.set_cons_succ,List.getElem?_toArray,List.getElem?_cons_succ,List.getElem?_cons_zero]);done)|(refine want1 rfl ?_;(simp only[Act.put,List.setIfInBounds_toArray,List.set_cons_zero,List.set_cons_succ,List.getElem?_toArray,List.getElem?_cons_succ,List.getElem?_cons_zero,Option.some.injEq,Value.bool.injEq]);assumption))):p:=h
theorem cRes {p:Prop}(h:p:=by(first|exact resTmp rfl|exact resCell hL rfl (by repeat (first|exact InL.head|apply InL.tail)) (by first|exact Reads.cell tInt rfl|exact Reads.cell tBool rfl|exact Reads.cell tErrno rfl|exact Reads.cell tStr rfl|exact Reads.cell tInstrs rfl|exact Reads.cell tValues rfl|exact Reads.cell tThings rfl|exact Reads.cell tStrs rfl|exact Reads.cell tInts rfl|exact Reads.cell tFun rfl|exact Reads.cell tGuesses rfl|exact Reads.cell tBools rfl|exact Reads.cell tRows rfl|exact Reads.cell tPics rfl|exact Reads.cell tEdges rfl|exact Reads.cell tAlarms rfl|exact Reads.agg tValue (by simp only[List.drop_zero,List.drop_succ_cons,List.take_succ_cons,List.take_zero];rfl) rfl|exact Reads.agg tThing (by simp only[List.drop_zero,List.drop_succ_cons,List.take_succ_cons,List.take_zero];rfl) rfl|exact Reads.agg tRun (by simp only[List.drop_zero,List.drop_succ_cons,List.take_succ_cons,List.take_zero];rfl) rfl|exact Reads.agg tSpan (by simp only[List.drop_zero,List.drop_succ_cons,List.take_succ_cons,List.take_zero];rfl) rfl|exact Reads.agg tProg (by simp only[List.drop_zero,List.drop_succ_cons,List.take_succ_cons,List.take_zero];rfl) rfl|exact Reads.agg tInstr (by simp only[List.drop_zero,List.drop_succ_cons,List.take_succ_cons,List.take_zero];rfl) rfl|exact Reads.agg tGuess (by simp only[List.drop_zero,List.drop_succ_cons,List.take_succ_cons,List.take_zero];rfl) rfl|exact Reads.agg tShape (by simp only[List.drop_zero,List.drop_succ_cons,List.take_succ_cons,List.take_zero];rfl) rfl|exact Reads.agg tPic (by simp only[List.drop_zero,List.drop_succ_cons,List.take_succ_cons,List.take_zero];rfl) rfl|exact Reads.agg tEdge (by simp only[List.drop_zero,List.drop_succ_cons,List.take_succ_cons,List.take_zero];rfl) rfl|exact Reads.agg tAlarm (by simp only[List.drop_zero,List.drop_succ_cons,List.take_succ_cons,List.take_zero];rfl) rfl))):p:=h
theorem yv {Rs:List (Value→World→Prop)}{ds:List Nat}{d:Nat}{x:Value}{g:Nat→Value}{w:World}{l:List Nat}(h:AllR Rs ds g w l) (j:Nat) (hj:j∈l:=by decide) (h1:Rs[j]? = some (fun v _=>v=x):=by rfl) (h2:ds[j]? = some d:=by rfl):g d=x:=rat_val (allR_get h hj) h1 h2
theorem yr {Rs:List (Value→World→Prop)}{ds:List Nat}{d:Nat}{R:Value→World→Prop}{g:Nat→Value}{w:World}{l:List Nat}(h:AllR Rs ds g w l) (j:Nat) (hj:j∈l:=by decide) (h1:Rs[j]? = some R:=by rfl) (h2:ds[j]? = some d:=by rfl):R (g d) w:=rat_any (allR_get h hj) h1 h2
theorem fLa {α β:Type}(f:β→α→β) (b:β) (a:α) (l:List α):(a::l).foldl f b=l.foldl f (f b a):=rfl
theorem fLb {α β:Type}(f:β→α→β) (b:β):([]:List α).foldl f b=b:=rfl
theorem sTa {α:Type}(a b:α) (l:List α) (n:Nat):(a::l).set (n+1) b=a::l.set n b:=rfl
theorem sTb {α:Type}(a b:α) (l:List α):(a::l).set 0 b=b::l:=rfl
theorem apN {α:Type}(l:List α):[]++l=l:=rfl
theorem apC {α:Type}(a:α) (l m:List α):(a::l)++m=a::(l++m):=rfl
theorem cY {p:Prop}(h:p:=by exact⟨rfl,_,rfl,Below.refl _ _,rfl⟩):p:=h
section
variable {P : Program} {ops : Array Oper} {C : Prop} {t : List Value} {df : List Deferred} {ds : List Nat} {w1 : World} {Rs Rs2 : List (Value → World → Prop)} {x : Value} {o : Oper} {os : List Oper} {d : Nat} {dr : List Nat}
theorem dv0 (h:DrawGoal P ops C t df ds w1 Rs2 os dr)
  (hk:∀ g w,Below w1.heap.size w1 w→wpList P ops (DrawPost ⟨(fillD t ds g).toArray,df⟩ d w (fun v _=>v=x)) [o] ⟨(fillD t ds g).toArray,df⟩ w:=by intro g w hb;replace hL:=hL.grow hb;simp only[fillD,fLa,fLb,sTa,sTb];go_wp2_with (first|(with_reducible refine lld hL ?_)|(with_reducible refine ldD hL ?_));exact cY)
  (hr:Rs++[fun v _=>v=x]=Rs2:=by(simp only[apN,apC];rfl)):DrawGoal P ops C t df ds w1 Rs (o::os) (d::dr):=by
 subst hr
 exact draw_val (fun g w hb Z=>hk g w hb) h
theorem dv1 (j1:Nat) {d1:Nat}{x1:Value}(h:DrawGoal P ops C t df ds w1 Rs2 os dr)
  (m1:j1∈depsOf o:=by decide) (r1:Rs[j1]? = some (fun v _=>v=x1):=by rfl) (e1:ds[j1]? = some d1:=by rfl)
  (hk:∀ g w,Below w1.heap.size w1 w→g d1=x1→wpList P ops (DrawPost ⟨(fillD t ds g).toArray,df⟩ d w (fun v _=>v=x)) [o] ⟨(fillD t ds g).toArray,df⟩ w:=by intro g w hb q1;replace hL:=hL.grow hb;simp only[fillD,fLa,fLb,sTa,sTb];simp only[q1];go_wp2_with (first|(with_reducible refine lld hL ?_)|(with_reducible refine ldD hL ?_));exact cY)
  (hr:Rs++[fun v _=>v=x]=Rs2:=by(simp only[apN,apC];rfl)):DrawGoal P ops C t df ds w1 Rs (o::os) (d::dr):=by
 subst hr
 exact draw_val (fun g w hb Z=>hk g w hb (rat_val (allR_get Z m1) r1 e1)) h
theorem dv2 (j1 j2:Nat) {d1 d2:Nat}{x1 x2:Value}(h:DrawGoal P ops C t df ds w1 Rs2 os dr)
  (m1:j1∈depsOf o:=by decide) (r1:Rs[j1]? = some (fun v _=>v=x1):=by rfl) (e1:ds[j1]? = some d1:=by rfl) (m2:j2∈depsOf o:=by decide) (r2:Rs[j2]? = some (fun v _=>v=x2):=by rfl) (e2:ds[j2]? = some d2:=by rfl)
  (hk:∀ g w,Below w1.heap.size w1 w→g d1=x1→g d2=x2→wpList P ops (DrawPost ⟨(fillD t ds g).toArray,df⟩ d w (fun v _=>v=x)) [o] ⟨(fillD t ds g).toArray,df⟩ w:=by intro g w hb q1 q2;replace hL:=hL.grow hb;simp only[fillD,fLa,fLb,sTa,sTb];simp only[q1,q2];go_wp2_with (first|(with_reducible refine lld hL ?_)|(with_reducible refine ldD hL ?_));exact cY)
  (hr:Rs++[fun v _=>v=x]=Rs2:=by(simp only[apN,apC];rfl)):DrawGoal P ops C t df ds w1 Rs (o::os) (d::dr):=by
 subst hr
 exact draw_val (fun g w hb Z=>hk g w hb (rat_val (allR_get Z m1) r1 e1) (rat_val (allR_get Z m2) r2 e2)) h
theorem dv3 (j1 j2 j3:Nat) {d1 d2 d3:Nat}{x1 x2 x3:Value}(h:DrawGoal P ops C t df ds w1 Rs2 os dr)
  (m1:j1∈depsOf o:=by decide) (r1:Rs[j1]? = some (fun v _=>v=x1):=by rfl) (e1:ds[j1]? = some d1:=by rfl) (m2:j2∈depsOf o:=by decide) (r2:Rs[j2]? = some (fun v _=>v=x2):=by rfl) (e2:ds[j2]? = some d2:=by rfl) (m3:j3∈depsOf o:=by decide) (r3:Rs[j3]? = some (fun v _=>v=x3):=by rfl) (e3:ds[j3]? = some d3:=by rfl)
  (hk:∀ g w,Below w1.heap.size w1 w→g d1=x1→g d2=x2→g d3=x3→wpList P ops (DrawPost ⟨(fillD t ds g).toArray,df⟩ d w (fun v _=>v=x)) [o] ⟨(fillD t ds g).toArray,df⟩ w:=by intro g w hb q1 q2 q3;replace hL:=hL.grow hb;simp only[fillD,fLa,fLb,sTa,sTb];simp only[q1,q2,q3];go_wp2_with (first|(with_reducible refine lld hL ?_)|(with_reducible refine ldD hL ?_));exact cY)
  (hr:Rs++[fun v _=>v=x]=Rs2:=by(simp only[apN,apC];rfl)):DrawGoal P ops C t df ds w1 Rs (o::os) (d::dr):=by
 subst hr
 exact draw_val (fun g w hb Z=>hk g w hb (rat_val (allR_get Z m1) r1 e1) (rat_val (allR_get Z m2) r2 e2) (rat_val (allR_get Z m3) r3 e3)) h
end
end Go.Proofs.YtplcndmdkabmeaaGreatDoor
namespace Go.Proofs.YtplcndmdkabmeaaGreatDoor
open Go.RowKit
section
variable {P : Program} {ops : Array Oper} {C : Prop} {t : List Value} {df : List Deferred} {ds : List Nat} {w1 : World} {Rs Rs2 : List (Value → World → Prop)} {x : Value} {os : List Oper} {d : Nat} {dr : List Nat} {j dj : Nat} {b : Bool} {op : Op} {ty : TypeId} {pos : String} {after : Array Edge}
theorem dg0 (j:Nat) {dj:Nat}{e:Bool}(h:DrawGoal P ops C t df ds w1 Rs2 os dr)
  (hj:Rs[j]? = some (fun v _=>v=.bool e):=by rfl) (hdj:ds[j]? = some dj:=by rfl) (hop:(ops[j]?).bind (·.dst)=some dj:=by rfl) (Z:j∈depsOf (⟨some d,op,ty,pos,after,some (j,b)⟩:Oper):=by decide) (hl:dj<t.length:=by simp)
  (hk:(e==b)=true→∀ g w,Below w1.heap.size w1 w→wpList P ops (DrawPost ⟨(fillD t ds g).toArray,df⟩ d w (fun v _=>v=x)) [⟨some d,op,ty,pos,after,none⟩] ⟨(fillD t ds g).toArray,df⟩ w:=by intro hcs;simp only[Bool.and_eq_true,beqT,beqF]at hcs;intro g w hb ;replace hL:=hL.grow hb;simp only[fillD,fLa,fLb,sTa,sTb];go_wp2_with (first|(with_reducible refine lld hL ?_)|(with_reducible refine ldD hL ?_));exact cY)
  (hr:Rs++[fun v _=>v=cnd (e==b) x]=Rs2:=by(simp only[apN,apC];rfl)):DrawGoal P ops C t df ds w1 Rs (⟨some d,op,ty,pos,after,some (j,b)⟩::os) (d::dr):=by
 subst hr
 exact draw_guard hj hdj hop Z hl (fun hc g w hb Z=>hk hc g w hb) h
theorem dg1 (j k1:Nat) {dj:Nat}{e:Bool}{f1:Nat}{x1:Value}(h:DrawGoal P ops C t df ds w1 Rs2 os dr)
  (hj:Rs[j]? = some (fun v _=>v=.bool e):=by rfl) (hdj:ds[j]? = some dj:=by rfl) (hop:(ops[j]?).bind (·.dst)=some dj:=by rfl) (Z:j∈depsOf (⟨some d,op,ty,pos,after,some (j,b)⟩:Oper):=by decide) (hl:dj<t.length:=by simp)
  (m1:k1∈depsOf (⟨some d,op,ty,pos,after,some (j,b)⟩:Oper):=by decide) (r1:Rs[k1]? = some (fun v _=>v=x1):=by rfl) (e1:ds[k1]? = some f1:=by rfl)
  (hk:(e==b)=true→∀ g w,Below w1.heap.size w1 w→g f1=x1→wpList P ops (DrawPost ⟨(fillD t ds g).toArray,df⟩ d w (fun v _=>v=x)) [⟨some d,op,ty,pos,after,none⟩] ⟨(fillD t ds g).toArray,df⟩ w:=by intro hcs;simp only[Bool.and_eq_true,beqT,beqF]at hcs;intro g w hb q1;replace hL:=hL.grow hb;(try simp only[hcs,beq_self_eq_true,Bool.and_self,Bool.true_and,Bool.and_true,cnd_true]at q1);simp only[fillD,fLa,fLb,sTa,sTb];simp only[q1];go_wp2_with (first|(with_reducible refine lld hL ?_)|(with_reducible refine ldD hL ?_));exact cY)
  (hr:Rs++[fun v _=>v=cnd (e==b) x]=Rs2:=by(simp only[apN,apC];rfl)):DrawGoal P ops C t df ds w1 Rs (⟨some d,op,ty,pos,after,some (j,b)⟩::os) (d::dr):=by
 subst hr
 exact draw_guard hj hdj hop Z hl (fun hc g w hb Z=>hk hc g w hb (rat_val (allR_get Z m1) r1 e1)) h
theorem dg2 (j k1 k2:Nat) {dj:Nat}{e:Bool}{f1 f2:Nat}{x1 x2:Value}(h:DrawGoal P ops C t df ds w1 Rs2 os dr)
  (hj:Rs[j]? = some (fun v _=>v=.bool e):=by rfl) (hdj:ds[j]? = some dj:=by rfl) (hop:(ops[j]?).bind (·.dst)=some dj:=by rfl) (Z:j∈depsOf (⟨some d,op,ty,pos,after,some (j,b)⟩:Oper):=by decide) (hl:dj<t.length:=by simp)
  (m1:k1∈depsOf (⟨some d,op,ty,pos,after,some (j,b)⟩:Oper):=by decide) (r1:Rs[k1]? = some (fun v _=>v=x1):=by rfl) (e1:ds[k1]? = some f1:=by rfl)
  (m2:k2∈depsOf (⟨some d,op,ty,pos,after,some (j,b)⟩:Oper):=by decide) (r2:Rs[k2]? = some (fun v _=>v=x2):=by rfl) (e2:ds[k2]? = some f2:=by rfl)
  (hk:(e==b)=true→∀ g w,Below w1.heap.size w1 w→g f1=x1→g f2=x2→wpList P ops (DrawPost ⟨(fillD t ds g).toArray,df⟩ d w (fun v _=>v=x)) [⟨some d,op,ty,pos,after,none⟩] ⟨(fillD t ds g).toArray,df⟩ w:=by intro hcs;simp only[Bool.and_eq_true,beqT,beqF]at hcs;intro g w hb q1 q2;replace hL:=hL.grow hb;(try simp only[hcs,beq_self_eq_true,Bool.and_self,Bool.true_and,Bool.and_true,cnd_true]at q1);(try simp only[hcs,beq_self_eq_true,Bool.and_self,Bool.true_and,Bool.and_true,cnd_true]at q2);simp only[fillD,fLa,fLb,sTa,sTb];simp only[q1,q2];go_wp2_with (first|(with_reducible refine lld hL ?_)|(with_reducible refine ldD hL ?_));exact cY)
  (hr:Rs++[fun v _=>v=cnd (e==b) x]=Rs2:=by(simp only[apN,apC];rfl)):DrawGoal P ops C t df ds w1 Rs (⟨some d,op,ty,pos,after,some (j,b)⟩::os) (d::dr):=by
 subst hr
 exact draw_guard hj hdj hop Z hl (fun hc g w hb Z=>hk hc g w hb (rat_val (allR_get Z m1) r1 e1) (rat_val (allR_get Z m2) r2 e2)) h
theorem dc0 (j:Nat) {dj:Nat}{e c:Bool}(h:DrawGoal P ops C t df ds w1 Rs2 os dr)
  (hj:Rs[j]? = some (fun v _=>v=cnd c (.bool e)):=by rfl) (hdj:ds[j]? = some dj:=by rfl) (hop:(ops[j]?).bind (·.dst)=some dj:=by rfl) (Z:j∈depsOf (⟨some d,op,ty,pos,after,some (j,b)⟩:Oper):=by decide) (hl:dj<t.length:=by simp)
  (hk:(c&&(e==b))=true→∀ g w,Below w1.heap.size w1 w→wpList P ops (DrawPost ⟨(fillD t ds g).toArray,df⟩ d w (fun v _=>v=x)) [⟨some d,op,ty,pos,after,none⟩] ⟨(fillD t ds g).toArray,df⟩ w:=by intro hcs;simp only[Bool.and_eq_true,beqT,beqF]at hcs;intro g w hb ;replace hL:=hL.grow hb;simp only[fillD,fLa,fLb,sTa,sTb];go_wp2_with (first|(with_reducible refine lld hL ?_)|(with_reducible refine ldD hL ?_));exact cY)
  (hr:Rs++[fun v _=>v=cnd (c&&(e==b)) x]=Rs2:=by(simp only[apN,apC];rfl)):DrawGoal P ops C t df ds w1 Rs (⟨some d,op,ty,pos,after,some (j,b)⟩::os) (d::dr):=by
 subst hr
 exact draw_guardC hj hdj hop Z hl (fun hc g w hb Z=>hk hc g w hb) h
theorem dc1 (j k1:Nat) {dj:Nat}{e c:Bool}{f1:Nat}{x1:Value}(h:DrawGoal P ops C t df ds w1 Rs2 os dr)
  (hj:Rs[j]? = some (fun v _=>v=cnd c (.bool e)):=by rfl) (hdj:ds[j]? = some dj:=by rfl) (hop:(ops[j]?).bind (·.dst)=some dj:=by rfl) (Z:j∈depsOf (⟨some d,op,ty,pos,after,some (j,b)⟩:Oper):=by decide) (hl:dj<t.length:=by simp)
  (m1:k1∈depsOf (⟨some d,op,ty,pos,after,some (j,b)⟩:Oper):=by decide) (r1:Rs[k1]? = some (fun v _=>v=x1):=by rfl) (e1:ds[k1]? = some f1:=by rfl)
  (hk:(c&&(e==b))=true→∀ g w,Below w1.heap.size w1 w→g f1=x1→wpList P ops (DrawPost ⟨(fillD t ds g).toArray,df⟩ d w (fun v _=>v=x)) [⟨some d,op,ty,pos,after,none⟩] ⟨(fillD t ds g).toArray,df⟩ w:=by intro hcs;simp only[Bool.and_eq_true,beqT,beqF]at hcs;intro g w hb q1;replace hL:=hL.grow hb;(try simp only[hcs,beq_self_eq_true,Bool.and_self,Bool.true_and,Bool.and_true,cnd_true]at q1);simp only[fillD,fLa,fLb,sTa,sTb];simp only[q1];go_wp2_with (first|(with_reducible refine lld hL ?_)|(with_reducible refine ldD hL ?_));exact cY)
  (hr:Rs++[fun v _=>v=cnd (c&&(e==b)) x]=Rs2:=by(simp only[apN,apC];rfl)):DrawGoal P ops C t df ds w1 Rs (⟨some d,op,ty,pos,after,some (j,b)⟩::os) (d::dr):=by
 subst hr
 exact draw_guardC hj hdj hop Z hl (fun hc g w hb Z=>hk hc g w hb (rat_val (allR_get Z m1) r1 e1)) h
theorem dpa (k1 k2:Nat) {o:Oper}{f1 f2:Nat}{x1 x2:Value}(h:DrawGoal P ops C t df ds w1 Rs2 os dr)
  (m1:k1∈depsOf o:=by decide) (r1:Rs[k1]? = some (fun v _=>v=x1):=by rfl) (e1:ds[k1]? = some f1:=by rfl) (m2:k2∈depsOf o:=by decide) (r2:Rs[k2]? = some (fun v _=>v=x2):=by rfl) (e2:ds[k2]? = some f2:=by rfl)
  (hk:∀ g w,Below w1.heap.size w1 w→g f1=x1→g f2=x2→wpList P ops (DrawPost ⟨(fillD t ds g).toArray,df⟩ d w (fun v _=>v=x)) [o] ⟨(fillD t ds g).toArray,df⟩ w:=by intro g w hb q1 q2;simp only[fillD,fLa,fLb,sTa,sTb];simp only[q1,q2];(first|refine wp_pick_and rfl rfl ?_|go_wp2);exact cY)
  (hr:Rs++[fun v _=>v=x]=Rs2:=by(simp only[apN,apC];rfl)):DrawGoal P ops C t df ds w1 Rs (o::os) (d::dr):=by
 subst hr
 exact draw_val (fun g w hb Z=>hk g w hb (rat_val (allR_get Z m1) r1 e1) (rat_val (allR_get Z m2) r2 e2)) h
theorem dpo (k1 k2:Nat) {o:Oper}{f1 f2:Nat}{x1 x2:Value}(h:DrawGoal P ops C t df ds w1 Rs2 os dr)
  (m1:k1∈depsOf o:=by decide) (r1:Rs[k1]? = some (fun v _=>v=x1):=by rfl) (e1:ds[k1]? = some f1:=by rfl) (m2:k2∈depsOf o:=by decide) (r2:Rs[k2]? = some (fun v _=>v=x2):=by rfl) (e2:ds[k2]? = some f2:=by rfl)
  (hk:∀ g w,Below w1.heap.size w1 w→g f1=x1→g f2=x2→wpList P ops (DrawPost ⟨(fillD t ds g).toArray,df⟩ d w (fun v _=>v=x)) [o] ⟨(fillD t ds g).toArray,df⟩ w:=by intro g w hb q1 q2;simp only[fillD,fLa,fLb,sTa,sTb];simp only[q1,q2];(first|refine wp_pick_or rfl rfl ?_|go_wp2);exact cY)
  (hr:Rs++[fun v _=>v=x]=Rs2:=by(simp only[apN,apC];rfl)):DrawGoal P ops C t df ds w1 Rs (o::os) (d::dr):=by
 subst hr
 exact draw_val (fun g w hb Z=>hk g w hb (rat_val (allR_get Z m1) r1 e1) (rat_val (allR_get Z m2) r2 e2)) h
theorem dgpa (j k1 k2:Nat) {dj:Nat}{e:Bool}{f1 f2:Nat}{x1 x2:Value}(h:DrawGoal P ops C t df ds w1 Rs2 os dr)
  (hj:Rs[j]? = some (fun v _=>v=.bool e):=by rfl) (hdj:ds[j]? = some dj:=by rfl) (hop:(ops[j]?).bind (·.dst)=some dj:=by rfl) (Z:j∈depsOf (⟨some d,op,ty,pos,after,some (j,b)⟩:Oper):=by decide) (hl:dj<t.length:=by simp)
  (m1:k1∈depsOf (⟨some d,op,ty,pos,after,some (j,b)⟩:Oper):=by decide) (r1:Rs[k1]? = some (fun v _=>v=x1):=by rfl) (e1:ds[k1]? = some f1:=by rfl) (m2:k2∈depsOf (⟨some d,op,ty,pos,after,some (j,b)⟩:Oper):=by decide) (r2:Rs[k2]? = some (fun v _=>v=x2):=by rfl) (e2:ds[k2]? = some f2:=by rfl)
  (hk:(e==b)=true→∀ g w,Below w1.heap.size w1 w→g f1=x1→g f2=x2→wpList P ops (DrawPost ⟨(fillD t ds g).toArray,df⟩ d w (fun v _=>v=x)) [⟨some d,op,ty,pos,after,none⟩] ⟨(fillD t ds g).toArray,df⟩ w:=by intro hcs;simp only[Bool.and_eq_true,beqT,beqF]at hcs;intro g w hb q1 q2;(try simp only[hcs,beq_self_eq_true,Bool.and_self,Bool.true_and,Bool.and_true,cnd_true]at q1);(try simp only[hcs,beq_self_eq_true,Bool.and_self,Bool.true_and,Bool.and_true,cnd_true]at q2);simp only[fillD,fLa,fLb,sTa,sTb];simp only[q1,q2];(first|refine wp_pick_and rfl rfl ?_|go_wp2);exact cY)
  (hr:Rs++[fun v _=>v=cnd (e==b) x]=Rs2:=by(simp only[apN,apC];rfl)):DrawGoal P ops C t df ds w1 Rs (⟨some d,op,ty,pos,after,some (j,b)⟩::os) (d::dr):=by
 subst hr
 exact draw_guard hj hdj hop Z hl (fun hc g w hb Z=>hk hc g w hb (rat_val (allR_get Z m1) r1 e1) (rat_val (allR_get Z m2) r2 e2)) h
theorem dgpo (j k1 k2:Nat) {dj:Nat}{e:Bool}{f1 f2:Nat}{x1 x2:Value}(h:DrawGoal P ops C t df ds w1 Rs2 os dr)
  (hj:Rs[j]? = some (fun v _=>v=.bool e):=by rfl) (hdj:ds[j]? = some dj:=by rfl) (hop:(ops[j]?).bind (·.dst)=some dj:=by rfl) (Z:j∈depsOf (⟨some d,op,ty,pos,after,some (j,b)⟩:Oper):=by decide) (hl:dj<t.length:=by simp)
  (m1:k1∈depsOf (⟨some d,op,ty,pos,after,some (j,b)⟩:Oper):=by decide) (r1:Rs[k1]? = some (fun v _=>v=x1):=by rfl) (e1:ds[k1]? = some f1:=by rfl) (m2:k2∈depsOf (⟨some d,op,ty,pos,after,some (j,b)⟩:Oper):=by decide) (r2:Rs[k2]? = some (fun v _=>v=x2):=by rfl) (e2:ds[k2]? = some f2:=by rfl)
  (hk:(e==b)=true→∀ g w,Below w1.heap.size w1 w→g f1=x1→g f2=x2→wpList P ops (DrawPost ⟨(fillD t ds g).toArray,df⟩ d w (fun v _=>v=x)) [⟨some d,op,ty,pos,after,none⟩] ⟨(fillD t ds g).toArray,df⟩ w:=by intro hcs;simp only[Bool.and_eq_true,beqT,beqF]at hcs;intro g w hb q1 q2;(try simp only[hcs,beq_self_eq_true,Bool.and_self,Bool.true_and,Bool.and_true,cnd_true]at q1);(try simp only[hcs,beq_self_eq_true,Bool.and_self,Bool.true_and,Bool.and_true,cnd_true]at q2);simp only[fillD,fLa,fLb,sTa,sTb];simp only[q1,q2];(first|refine wp_pick_or rfl rfl ?_|go_wp2);exact cY)
  (hr:Rs++[fun v _=>v=cnd (e==b) x]=Rs2:=by(simp only[apN,apC];rfl)):DrawGoal P ops C t df ds w1 Rs (⟨some d,op,ty,pos,after,some (j,b)⟩::os) (d::dr):=by
 subst hr
 exact draw_guard hj hdj hop Z hl (fun hc g w hb Z=>hk hc g w hb (rat_val (allR_get Z m1) r1 e1) (rat_val (allR_get Z m2) r2 e2)) h
end
inductive ValsR:List (Value→World→Prop)→List Value→Prop where
 | nil:ValsR [] []
 | cons {x:Value} {Rs:List (Value→World→Prop)} {xs:List Value} (h:ValsR Rs xs):ValsR ((fun v _=>v=x)::Rs) (x::xs)
def fillX:List Value→List Nat→List Value→List Value
 | t,d::ds,x::xs=>fillX (t.set d x) ds xs
 | t,_,_=>t
theorem fillD_vals {g:Nat→Value}{w:World}:∀ {Rs:List (Value→World→Prop)}{xs:List Value}(hV:ValsR Rs xs) {ds:List Nat}{t:List Value}(_:ds.length=Rs.length) (_:∀ j,j<Rs.length→RAt Rs ds j g w),fillD t ds g=fillX t ds xs:=by
 intro Rs xs hV
 induction hV with
 | nil=>intro ds t hl _;cases ds with
  | nil=>rfl
  | cons d ds=>simp at hl
 | @cons x Rs xs h ih=>
  intro ds t hl hR
  cases ds with
  | nil=>simp at hl
  | cons d ds=>
   have h0:g d=x:=rat_val (hR 0 (by simp)) rfl rfl
   show fillD (t.set d (g d)) ds g=fillX (t.set d x) ds xs
   rw[h0]
   exact ih (by simpa using hl) (fun j hj=>hR (j+1) (by simpa using hj))
section
variable {P : Program} {ops : Array Oper} {Q : Exit → Act → World → Prop} {t : List Value} {df : List Deferred} {ds : List Nat} {w1 : World} {Rs : List (Value → World → Prop)} {id : Nat} {os : List Oper} {L : List LBlk} {D : List Datum} {w0 : World} {xs : List Value}
theorem dnd (hL:Loc w0 w1 L D) (h:∀ w,Loc w0 w L D→wpList P ops Q os ⟨(fillX t ds xs).toArray,df⟩ w) (hV:ValsR Rs xs:=by repeat (first|exact ValsR.nil|apply ValsR.cons)) (hn:ds.length=Rs.length:=by rfl) (hm:P.follows .mixedOrders=true:=by kernel_rfl) (hB:Region.drawB ops ds=true:=by kernel_rfl):
  DrawGoal P ops ((Code.region id ops true).wp P Q ⟨t.toArray,df⟩ w1) t df ds w1 Rs os []:=
 draw_end hL hm hB fun g w hb hR=>by
  rw[fillD_vals hV hn (fun j hj=>allR_get hR (List.mem_range.2 hj))]
  exact h w (hL.grow hb)
theorem dns (hL:Loc w0 w1 L D) (h:∀ w,Loc w0 w L D→wpList P ops Q os ⟨(fillX t ds xs).toArray,df⟩ w) (hV:ValsR Rs xs:=by repeat (first|exact ValsR.nil|apply ValsR.cons)) (hn:ds.length=Rs.length:=by rfl) (hB:Region.lineB ops ds=true:=by kernel_rfl):
  DrawGoal P ops ((Code.region id ops false).wp P Q ⟨t.toArray,df⟩ w1) t df ds w1 Rs os []:=
 seq_end hL hB fun g w hb hR=>by
  rw[fillD_vals hV hn (fun j hj=>allR_get hR (List.mem_range.2 hj))]
  exact h w (hL.grow hb)
end
section
variable {P : Program} {a : Act} {w : World} {fn : Func} {R : Ending → World → Prop} {r s t q : ResultVar} {v u x y : Value}
theorem cMm {p:Prop}(h:p:=by repeat (first|exact List.mem_cons_self|apply List.mem_cons_of_mem)):p:=h
theorem cIn {p:Prop}(h:p:=by repeat (first|exact InL.head|apply InL.tail)):p:=h
theorem rt1 (hR:R (.returned v) w) (hr:fn.results=#[r]:=by rfl) (h:ResV P w a.tmps r v:=by exact cRes) (hd:a.defers=[]:=by rfl):bodyPost P fn R .ret a w:=ret1 hr h hd hR
theorem rt2 (hR:R (.returned (.tuple #[v,u])) w) (hr:fn.results=#[r,s]:=by rfl) (h:ResV P w a.tmps r v:=by exact cRes) (k:ResV P w a.tmps s u:=by exact cRes) (hd:a.defers=[]:=by rfl):bodyPost P fn R .ret a w:=ret2 hr h k hd hR
theorem rt3 (hR:R (.returned (.tuple #[v,u,x])) w) (hr:fn.results=#[r,s,t]:=by rfl) (h:ResV P w a.tmps r v:=by exact cRes) (k:ResV P w a.tmps s u:=by exact cRes) (l:ResV P w a.tmps t x:=by exact cRes) (hd:a.defers=[]:=by rfl):bodyPost P fn R .ret a w:=ret3 hr h k l hd hR
end
end Go.Proofs.YtplcndmdkabmeaaGreatDoor
namespace Go.Proofs.YtplcndmdkabmeaaGreatDoor
open Go.RowKit
def MapAt (b:Nat) (es:Array MapEntry) (c:Nat):Datum:=fun w=>w.heap[b]? = some (.map es c)
theorem MapAt.fresh {w w1:World}{b:Nat}{es:Array MapEntry}{c:Nat}(h1:w.heap.size≤b) (h2:w1.heap[b]? = some (.map es c)):Fresh w w1 (MapAt b es c):=
 ⟨fun k=>k=b,fun k hk=>by subst hk;exact⟨h1,heap_lt h2⟩,fun w' hw'=>by show w'.heap[b]? = _;rw[hw' b rfl];exact h2⟩
structure MapT (P:Program) (T K V:TypeId):Prop where
 und:P.underlying T=some (.map K V)
 key:P.underlying K=some (.int .i64)
def rowsOf (l:List (Int × Value)):List MapEntry:=l.zipIdx.map fun x=>⟨.int .i64 x.1.1,x.1.2,x.2⟩
theorem findNow_rows (k:Int):∀ (l:List (Int × Value)) (j i:Nat),Instr.findNow (.int .i64) (.int .i64 k) ((l.zipIdx j).map fun x=>(⟨.int .i64 x.1.1,x.1.2,x.2⟩:MapEntry)) i =
  some (((l.zipIdx i).find? fun x=>k==x.1.1).map fun x=>(x.2,x.1.2))
 | [],_,_=>rfl
 | x::l,j,i=>by
  simp only[List.zipIdx_cons,List.map_cons,Instr.findNow,Instr.sameNow,if_true,List.find?_cons]
  cases h:(k==x.1) with
  | true=>simp
  | false=>simp only[findNow_rows k l (j+1) (i+1)]
section
variable {P : Program} {w : World}
theorem run_getObj_map {b:Nat}{es:Array MapEntry}{c:Nat}(h:w.heap[b]? = some (.map es c)):(getObj b).run P w=.ok (.map es c) w:=by
 simp[getObj,Sem.run,h]
theorem run_setObj_map {b:Nat} {es:Array MapEntry} {c:Nat} {o:Obj} (h:w.heap[b]? = some (.map es c)):(setObj b o).run P w=.ok () { w with heap:=w.heap.setIfInBounds b o }:=by
 simp[setObj,Sem.run,h]
theorem run_checkKey {T K V:TypeId}(hT:MapT P T K V) (e:Bool) (n:Nat) (k:Int):(Instr.checkKey e (n+1) K (.int .i64 k)).run P w=.ok () w:=by
 unfold Instr.checkKey
 rw[Sem.run_bind,run_underlying hT.key]
 simp
theorem run_insert {T K V:TypeId}(hT:MapT P T K V) {b:Nat}{l:List (Int × Value)}{k:Int}{v:Value}(h:w.heap[b]? = some (.map (rowsOf l).toArray l.length)) (hn:l.all (fun x=>!(k==x.1))=true):
  (Instr.mapUpdate T (.map (some b)) (.int .i64 k) v).run P w=.ok () { w with heap:=w.heap.setIfInBounds b (.map (rowsOf (l++[(k,v)])).toArray (l++[(k,v)]).length) }:=by
 have hf:((l.zipIdx 0).find? fun x=>k==x.1.1)=none:=by
  rw[List.find?_eq_none]
  intro x hx
  have:=List.all_eq_true.1 hn x.1 (by
   have:=List.mem_map_of_mem (f:=Prod.fst) hx
   simpa using this)
  simpa using this
 have hk:(Instr.findKey K (.int .i64 k) (rowsOf l)).run P w=.ok none w:=by
  have h1:=findNow_rows k l 0 0
  rw[hf]at h1
  simp only[Option.map_none]at h1
  simp only[Instr.findKey,Sem.run_bind,run_underlying hT.key,Result.andThen_ok,rowsOf,h1]
  simp
 have hc:∀ e,(Instr.checkKey e 10000 K (.int .i64 k)).run P w=.ok () w:=fun e=>run_checkKey hT e 9999 k
 simp only[Instr.mapUpdate,Sem.run_bind,run_underlying hT.und,Result.andThen_ok,run_getObj_map h,hc,hk]
 rw[run_setObj_map h]
 simp[rowsOf,List.zipIdx_append]
def lookVal (l:List (Int × Value)) (z:Value) (k:Int):Value:=match l.find? (fun x=>k==x.1) with|some x=>.tuple #[x.2,.bool true]|none=>.tuple #[z,.bool false]
theorem run_lookup_map {T K V:TypeId}(hT:MapT P T K V) {z:Value}(hz:∀ w,(zeroValue V).run P w=.ok z w) {b:Nat}{l:List (Int × Value)}{k:Int}(h:w.heap[b]? = some (.map (rowsOf l).toArray l.length)):
  (Instr.lookup T (.map (some b)) (.int .i64 k) true).run P w=.ok (lookVal l z k) w:=by
 unfold lookVal
 have h1:=findNow_rows k l 0 0
 have hc:∀ e,(Instr.checkKey e 10000 K (.int .i64 k)).run P w=.ok () w:=fun e=>run_checkKey hT e 9999 k
 have hfind:(((l.zipIdx 0).find? fun x=>k==x.1.1).map fun x=>x.1)=l.find? (fun x=>k==x.1):=by
  have:∀ (l:List (Int × Value)) (i:Nat),(((l.zipIdx i).find? fun x=>k==x.1.1).map fun x=>x.1)=l.find? (fun x=>k==x.1):=by
   intro l
   induction l with
   | nil=>intro i;rfl
   | cons x l ih=>
    intro i
    simp only[List.zipIdx_cons,List.find?_cons]
    cases (k==x.1) with
    | true=>rfl
    | false=>exact ih (i+1)
  exact this l 0
 have hk:(Instr.findKey K (.int .i64 k) (rowsOf l)).run P w=.ok (((l.zipIdx 0).find? fun x=>k==x.1.1).map fun x=>(x.2,x.1.2)) w:=by
  simp only[Instr.findKey,Sem.run_bind,run_underlying hT.key,Result.andThen_ok,rowsOf,h1]
  simp
 simp only[Instr.lookup,Sem.run_bind,run_underlying hT.und,Result.andThen_ok,run_getObj_map h,Sem.run_pure,hc,hk]
 rw[← hfind]
 cases (l.zipIdx 0).find? fun x=>k==x.1.1 with
 | none=>simp[hz]
 | some x=>simp
end
end Go.Proofs.YtplcndmdkabmeaaGreatDoor
