/- The walk over guess.Both: two guesses together, their spans by a function that is handed in. Conditions: the sites lie in memory that was there. -/
import Derived.Shelf.Sort.Plain
import Derived.Shelf.Slices.CompactI
import Derived.Shelf.Slices.In.SortNone
import Derived.Test.YtplcndmdkabmeaaGreatDoorRows
import Derived.RangeFuncNested
import Derived.RangeFuncBound
import Derived.RangeFuncCalls
import Derived.RangeFuncLeaves
import Derived.RangeFuncBox
import Derived.Shelf.Abstract
import Derived.Shelf.RegionOpen
import Derived.WalkKit
import Derived.OwnWalkIn
import Derived.TacticsInMore
import Derived.LoopNIn
import Derived.LoopIn
import Derived.Maps.AppendAt
import Derived.Sort.OwnSortedInts
import Derived.Test.YtplcndmdkabmeaaGreatDoorCod
import Derived.Lib.AppendZeros
import Derived.Test.YtplcndmdkabmeaaGreatDoorLib
import Derived.Test.YtplcndmdkabmeaaGreatDoorGua
import Derived.Lib.SlicesCompact
set_option linter.unusedSimpArgs false
set_option linter.unusedVariables false
set_option maxRecDepth 100000
set_option maxHeartbeats 4000000
namespace Go.Proofs.YtplcndmdkabmeaaGreatDoor
open Go.Proofs.Tryz
open Go.RowKit
open Go.Shelf
def G0:Go.Shelf.Ren:=⟨fun|189=>229|125=>249|257=>248|128=>263|129=>220|294=>254|295=>255|296=>256|297=>257|298=>258|299=>259|216=>260|300=>261|301=>262|328=>266|329=>267|330=>268|331=>269|332=>270|215=>271|343=>272|n=>n,fun|28=>37|3=>3|46=>197|0=>0|51=>236|53=>208|4=>4|183=>276|182=>275|131=>83|5=>5|9=>9|218=>291|222=>163|228=>296|229=>297|n=>n,fun|n=>n⟩
theorem zbf:Go.Proofs.Lays.n189 prog G0:={
 mixed:=by kernel_rfl
 f125:=func249.trans (congrArg some (by kernel_rfl))
 f128:=func263.trans (congrArg some (by kernel_rfl))
 f129:=func220.trans (congrArg some (by kernel_rfl))
 f189:=func229.trans (congrArg some (by kernel_rfl))
 f215:=func271.trans (congrArg some (by kernel_rfl))
 f216:=func260.trans (congrArg some (by kernel_rfl))
 f257:=func248.trans (congrArg some (by kernel_rfl))
 f294:=func254.trans (congrArg some (by kernel_rfl))
 f295:=func255.trans (congrArg some (by kernel_rfl))
 f296:=func256.trans (congrArg some (by kernel_rfl))
 f297:=func257.trans (congrArg some (by kernel_rfl))
 f298:=func258.trans (congrArg some (by kernel_rfl))
 f299:=func259.trans (congrArg some (by kernel_rfl))
 f300:=func261.trans (congrArg some (by kernel_rfl))
 f301:=func262.trans (congrArg some (by kernel_rfl))
 f328:=func266.trans (congrArg some (by kernel_rfl))
 f329:=func267.trans (congrArg some (by kernel_rfl))
 f330:=func268.trans (congrArg some (by kernel_rfl))
 f331:=func269.trans (congrArg some (by kernel_rfl))
 f332:=func270.trans (congrArg some (by kernel_rfl))
 f343:=func272.trans (congrArg some (by kernel_rfl))
 t0:=underlying0
 a0:=isAgg0
 z0:=sizeOf0
 v0:=zeroValue0
 t3:=underlying3
 a3:=isAgg3
 z3:=sizeOf3
 v3:=zeroValue3
 t4:=underlying4
 a4:=isAgg4
 z4:=sizeOf4
 v4:=zeroValue4
 t5:=underlying5
 a5:=isAgg5
 z5:=sizeOf5
 v5:=zeroValue5
 t9:=underlying9
 a9:=isAgg9
 z9:=sizeOf9
 v9:=zeroValue9
 t28:=underlying37
 a28:=isAgg37
 z28:=sizeOf37
 v28:=zeroValue37
 t46:=underlying197
 a46:=isAgg197
 z46:=sizeOf197
 v46:=zeroValue197
 t51:=underlying236
 a51:=isAgg236
 z51:=sizeOf236
 v51:=zeroValue236
 t53:=underlying208
 a53:=isAgg208
 z53:=sizeOf208
 v53:=zeroValue208
 t131:=underlying83
 a131:=isAgg83
 z131:=sizeOf83
 v131:=zeroValue83
 t182:=underlying275
 a182:=isAgg275
 z182:=sizeOf275
 v182:=zeroValue275
 t183:=underlying276
 a183:=isAgg276
 z183:=sizeOf276
 v183:=zeroValue276
 t218:=underlying291
 a218:=isAgg291
 z218:=sizeOf291
 v218:=zeroValue291
 t222:=underlying163
 a222:=isAgg163
 z222:=sizeOf163
 v222:=zeroValue163
 t228:=underlying296
 a228:=isAgg296
 z228:=sizeOf296
 v228:=zeroValue296
 t229:=underlying297
 a229:=isAgg297
 z229:=sizeOf297
 v229:=zeroValue297 }
open Go.Sort Go.RowKit in
theorem ziU (g off cap:Nat) (zs:List Int) (w:World) (i:Holds (Value.int .i64) w g off zs.toArray) (j:g<w.heap.size) (o:zs.length<4611686018427387904):
  Calls prog 229 #[.slice (some ⟨g,off,none⟩) zs.length cap] w fun e t=>
   e=.returned (.tuple #[])∧∃ n p,t=grow (putRow (Value.int .i64) (Sort.ahead w n) g off (zs.mergeSort fun x y=>decide (x<=y)).toArray) p:=Any.slices_Sort_int zbf g off cap zs w i j o
def UW:Go.Shelf.Ren:=⟨fun|20=>191|n=>n,fun|22=>37|3=>3|4=>4|0=>0|n=>n,fun|n=>n⟩
theorem UM:Go.Proofs.Lays2.n20 prog UW:={
 mixed:=by kernel_rfl
 f20:=func191.trans (congrArg some (by kernel_rfl))
 t0:=underlying0
 a0:=isAgg0
 z0:=sizeOf0
 v0:=zeroValue0
 t3:=underlying3
 a3:=isAgg3
 z3:=sizeOf3
 v3:=zeroValue3
 t4:=underlying4
 a4:=isAgg4
 z4:=sizeOf4
 v4:=zeroValue4
 t22:=underlying37
 a22:=isAgg37
 z22:=sizeOf37
 v22:=zeroValue37
 i3:=by kernel_rfl }
open Go.RowKit Go.Lib Go.Sort in
theorem zf8 (g off cap:Nat) (zs:List Int) (w:World) (i:Holds (Value.int .i64) w g off zs.toArray) (o:zs.length<=9223372036854775807) (j:zs.length<=cap):
  Calls prog 191 #[.slice (some ⟨g,off,none⟩) zs.length cap] w fun e p=>e=.returned (.slice (some ⟨g,off,none⟩) (Lib.compact zs).length cap)∧∃ q,p=putRow (Value.int .i64) (Sort.ahead w q) g off (Lib.compact zs++List.replicate (zs.length - (Lib.compact zs).length) 0).toArray:=Any.slices_Compact_int UM g off cap zs w i o j
theorem Xb (a:Option Addr) (cap:Nat) (w:World):
  Calls prog 191 #[.slice a 0 cap] w fun e g=>e=.returned (.slice a 0 cap)∧g=w:=Any.slices_Compact_int_empty UM a cap w
open Go.RowKit Go.Sort in
theorem zcL (p:Option Addr) (cap:Nat) (w:World):
  Calls prog 229 #[.slice p 0 cap] w fun e g=>e=.returned (.tuple #[])∧g=w:=Any.slices_Sort_int_none zbf p cap w
open Go.RowKit Go.Shelf
attribute [local go_sem] Oper.semAt_some
theorem ziV:(prog.info? 3).map (fun g=>(g.zero,g.size,g.bytes))=some (some (.int .i64 0),1,8):=by kernel_rfl
theorem zjk:prog.underlying 37=some (.slice 3):=by kernel_rfl
theorem zf9 (F:Fence) (n:Nat) (af:F.fn 230) (ao:F.round=none) (hn:1<=n) (l I C:Nat) (p:Option Addr) (b off len cap:Nat) (zs:List Int) (ab:0<len->p=some ⟨b,off,none⟩) (aw:len*8<=140737488351232) (hb:0<len->b<C) (i R:List Int->World->Prop)
  (aj:∀ pre x W,i pre W->pre.length<len->YieldAt F (n - 1) prog l #[.int .i64 x] W fun e g=>
   (e=.returned (.bool true)∧i (pre++[x]) g∧Below C W g)∨(e=.returned (.bool false)∧R (pre++[x]) g))
  (W:World) (av:W.cell? ⟨I,0,none⟩=some (.slice p len cap)) (hc:∀ t,t<len->W.cell? ⟨b,off+t,none⟩=some (.int .i64 (zs[t]?.getD 0))) (hz:len=zs.length) (ae:i [] W):
  CallsIn F n prog 230 #[.func (.yield l) #[] #[],.pointer (some ⟨I,0,none⟩)] W fun e g=>(∃ v,e=.returned v)∧
   ((∃ ad,ad=zs∧i ad g)∨(∃ pre,pre <+: zs∧R pre g)):=by
 have aq:∀ k,k<zs.length->zs.take (k+1)=zs.take k++[zs[k]?.getD 0]:=fun k U=>by
  rw[List.take_add_one,List.getElem?_eq_getElem U];rfl
 refine callsIn_of_wp func230 rfl af ?_ ao;simp only[ntmps230,List.size_toArray,List.length_cons,List.length_nil,Nat.reduceAdd,Nat.reduceSub,Array.replicate_succ,Array.replicate_zero,List.push_toArray,List.append_toArray,aX]
 gi_wp2
 gi_loopw [7] (fun o wr=>∃ k:Nat,k<=len∧o=.int .i64 k∧i (zs.take k) wr∧Below C W wr)
  (fun o _=>len - (intOf o).toNat)
 case atStart=>exact⟨0,Nat.zero_le _,rfl,ae,Below.refl _ _⟩
 case round=>
  obtain⟨k,U,rfl,T,aa⟩:=hrel;by_cases an:k<len
  ·obtain rfl:=ab (by omega)
   have ak:wr.cell? ⟨b,off+k,none⟩=some (.int .i64 (zs[k]?.getD 0)):=(aa.cell (p:=⟨b,off+k,none⟩) (hb (by omega))).trans (hc k an);have ac:=aj _ (zs[k]?.getD 0) wr T (by rw[List.length_take];omega);have j:=aq k (by omega);generalize zs[k]?.getD 0=x at ak ac j;have P:=za j;obtain⟨fn,ay,assign,au,ax,ai⟩:=ac;clear ab j
   gi_wp2
   refine ai.mono ?_;rintro e ar (⟨rfl,ag,al⟩|⟨rfl,ah⟩)
   ·gi_wp2
    go_roundw
    case rel=>exact⟨k+1,by omega,by simp,by rw[P.out];exact ag,aa.trans al⟩
    case measure=>simp[intOf];omega
   ·gi_wp2
    refine bodyPost_ret (results_none rfl _ _ _) rfl ?_;exact⟨⟨_,rfl⟩,.inr ⟨_,by rw[<- P.out];exact List.take_prefix _ _,ah⟩⟩
  ·obtain rfl:k=len:=by omega
   gi_wp2
   go_end0;exact⟨⟨_,rfl⟩,.inl ⟨_,by rw[hz,List.take_length],T⟩⟩
theorem zex (F:Fence) (n:Nat) (g:F.fn 193) (i:F.round=none) (p:Option Addr) (len cap:Nat) (w:World):
  CallsIn F n prog 193 #[.slice p len cap] w fun e j=>e=.returned (.func (.func 230) #[] #[.pointer (some ⟨w.heap.size,0,none⟩)])∧j=w.alloc (.cells #[.slice p len cap] 37):=by
 refine callsIn_of_wp func193 rfl g ?_ i;simp only[ntmps193,List.size_toArray,List.length_cons,List.length_nil,Nat.reduceAdd,Nat.reduceSub,Array.replicate_succ,Array.replicate_zero,List.push_toArray,List.append_toArray,aX]
 gi_wp2
 go_ret;exact⟨rfl,rfl⟩
theorem zcM (F:Fence) (n:Nat) (ah:F.fn 230) (al:F.round=none) (hn:1<=n) (g o:Nat) (s:Sl) (zs:List Int) (ak:zs.length*8<=140737488351232) (w:World) (ag:g<w.heap.size) (aj:o<=w.heap.size)
  (hc:w.cell? ⟨g,0,none⟩=some s.v) (w0:World) (ac:w0.heap.size=o) (an:Below o w0 w) (C:zk w0 s zs):
  SeqStopsK F n prog 230 #[.pointer (some ⟨g,0,none⟩)] (fun x:Int=>#[Value.int .i64 x]) (Below o) (fun ao=>ao=zs) (fun pre=>pre <+: zs) zs.length w:=fun l aa ab W I _ _ ai ad=>by
 have P:=(I.cell (p:=⟨g,0,none⟩) ag).trans hc;obtain⟨b,off,T,i⟩:=C.at'.ex;have U:=C.n;subst ac;obtain⟨p,len,cap⟩:=s;dsimp only at T i U P;subst U;refine zf9 F n ah al hn l g w0.heap.size p b off zs.length cap zs T ak (fun h=>(i 0 h).1) aa ab ai W P (fun j R=>?_) rfl ad;have t:=(i j R).2 0 (.int .i64 (zs.getD j 0)) rfl;have ae:=(i j R).1;simp only[Nat.mul_one,Nat.add_zero]at t;have af:Below w0.heap.size w0 W:=an.trans (I.mono aj);rw[af.cell (p:=⟨b,off+j,none⟩) ae,t,List.getD_eq_getElem?_getD]
theorem G1 (n:Nat) (hn:3<=n) (g:Nat) (s:Sl) (zs:List Int) (ak:zs.length*8<=140737488351232) (w:World) (ab:g<w.heap.size)
  (hc:w.cell? ⟨g,0,none⟩=some s.v) (ad:zk w s zs):
  CallsIn Fence.wide n prog 247 #[.slice none 0 0,.func (.func 230) #[] #[.pointer (some ⟨g,0,none⟩)]] w fun e I=>
   ∃ v,e=.returned v∧I.ownsRow w.heap.size 3 1 v zs.length (zs.map (Value.int .i64))∧Below w.heap.size w I:=by
 have aa:1<=n:=by omega
 obtain⟨av,af,aq,ar,au⟩:=info_parts ziV;have a1:maxLen=9223372036854775807:=rfl;refine callsIn_of_wp_marks func247 rfl trivial ?_ rfl;simp only[ntmps247,List.size_toArray,List.length_cons,List.length_nil,Nat.reduceAdd,Nat.reduceSub,Array.replicate_succ,Array.replicate_zero,List.push_toArray,List.append_toArray,aX]
 gi_wp2
 have U:=Boxed.new w 37 (.slice none 0 0);have C:Below w.heap.size w (w.alloc (.cells #[.slice none 0 0] 37)):=(Below.refl _ w).alloc (Nat.le_refl _) _;refine wpIn_rangeFunc_ownG rfl aa (gf:=230) (lb:=#[.pointer (some ⟨g,0,none⟩)]) rfl trivial (enters_of func230 (by kernel_rfl) rfl)
  (zcM Fence.wide (n - 1) trivial rfl (by omega) g w.heap.size s zs ak _ (by simp;omega) (by simp) ((C.cell (p:=⟨g,0,none⟩) ab).trans hc) w rfl C ad) belowK_t (belowK_b (by simp)) (Below.refl _ _) (fun _=>rfl)
  (fun pre W=>(∃ v,Boxed W w.heap.size 37 v∧W.ownsRow w.heap.size 3 1 v pre.length (pre.map (Value.int .i64))∧(v=.slice none 0 0↔pre=[]))∧Below w.heap.size w W)
  (fun _ _ _=>False)
  (OwnFrom.and (Go.Own.from (holdsRow_own w.heap.size w.heap.size 37 3 1 (fun pre:List Int=>pre.length) (fun pre=>pre.map (Value.int .i64)) (fun pre v=>(v=.slice none 0 0↔pre=[]))) _) (ownFrom_below (Nat.le_refl _) (by simp)))
  (fun _ _ _ _ _ al _ _=>al)
  ⟨⟨_,U,World.ownsRow_nil _ _ _ _,by simp⟩,C⟩
  (fun x=>{ tmps:=#[.slice none 0 0,.func (.func 230) #[] #[.pointer (some ⟨g,0,none⟩)],.pointer (some ⟨w.heap.size,0,none⟩),undef,.slice none 0 0,.int .i64 x,.func (.func 230) #[] #[.pointer (some ⟨g,0,none⟩)],.int .i64 x,undef,undef,undef,undef,undef],defers:=[] }) ?assign ?body ?done ?stop
 case assign=>
  intro l x W K j
  gi_wp2
  exact j
 case body=>
  rintro l pre x W ⟨⟨v,t,o,ai⟩,i⟩ ah;have ao:=t.cell;have a0 : pre.length<zs.length:=ah
  gi_wp2_with (gi_at_builtin;refine wpListIn_append_own _ rfl _ _ 37 rfl w.heap.size 3 av (.int .i64 0) 1 8 zjk af aq ar au rfl (by decide) _ _ _ rfl (o.alloc _) ⟨W.heap.size,0,none⟩ 1 1 [.int .i64 x] rfl rfl (cell_one_new _ _ _) (by simp[Value.oneCell']) (by omega) (by omega) (by have:=i.size;simp;omega) ?_;intro a2 a3 R ae _;obtain⟨ax,aw,rfl⟩:=ownsRow_succ R;obtain⟨T,an,aj,ag,P⟩:=t.appended (by decide) o i.size (Nat.le_refl _) R ae;have ay:=T.cell;have az:=T.frozen)
  exact⟨ag.from _,P,⟨_,an,by simpa using aj,by simp⟩,i.trans P⟩
 case done=>
  rintro D a4 W ac rfl ⟨⟨v,t,o,ai⟩,i⟩ j;have ao:=t.cell
  gi_wp2
  refine⟨by simp,.inl ⟨_,_,rfl,run_takeDeferred j,?_⟩⟩;exact⟨_,results_tmp rfl _ _ _,v,rfl,ownsRow_putObj o _ j rfl,i.trans (belowK_b (w:=w) (Nat.le_refl _) W D _ _ (by simp at ac;omega) j rfl rfl)⟩
 case stop=>
  rintro D c pre W _ _ h _;exact h.elim
theorem ziW:(prog.info? 3).map (fun g=>(g.zero,g.size,g.bytes))=some (some (.int .i64 0),1,8):=by kernel_rfl
theorem zjl:prog.underlying 37=some (.slice 3):=by kernel_rfl
theorem zga (n:Nat) (hn:n*8<=140737488355328) (w:World):
  Calls prog 231 #[.slice none 0 0,.int .i64 n] w fun e C=>∃ t cap o,e=.returned (.slice t 0 cap)∧zB 3 1 t 0 cap [] o∧Own w.heap.size C o∧Below w.heap.size w C:=by
 rcases Nat.eq_zero_or_pos n with rfl|I
 ·go_enter func231,ntmps231
  go_wp2;go_ret;exact⟨none,0,[],rfl,zB.nil,Own.nil,Below.refl _ _⟩
 ·obtain⟨ab,T,U,af,aa⟩:=info_parts ziW
  have ae:maxLen=9223372036854775807:=rfl;have ad:prog.underlying 3=some (.int .i64):=by kernel_rfl
  have j:=za (fun ac=>Lib.run_append_nil_zeros (P:=prog) w 37 3 ac 3 ab (.int .i64 0) .i64 .i64 zjl ad T U n I (by omega) (by omega) (by rw[aa];omega));have p:=grownCap_ge w n 0 3;have g:=grownCap_le_maxLen w n 0 3 (by omega);generalize grownCap w n 0 3=cap at j p g;have i:=za (And.intro p g);clear g;go_enter func231,ntmps231;go_wp2_with (at_builtin;refine Lib.wpList_append_run _ rfl _ _ _ _ rfl _ _ rfl rfl _ _ (j.out _) ?_);go_ret;refine⟨some ⟨w.heap.size,0,none⟩,cap,[(w.heap.size,3,(Builtin.zeroCells (Value.int .i64 0).cells n++Builtin.zeroCells (Value.int .i64 0).cells (cap - n)).toList)],rfl,⟨by simp,.inr ⟨w.heap.size,_,rfl,rfl,Nat.zero_le _,i.out.2,?_,by simp⟩⟩,⟨by simp,fun e R=>?_⟩,?_⟩
  ·have:=i.out.1
   simp[Builtin.zeroCells,Value.cells];omega
  ·rw[List.mem_singleton.1 R]
   refine⟨Nat.le_refl _,?_⟩;dsimp only;rw[Array.toArray_toList];exact jo w.drew _
  ·exact((Below.refl _ w).drew).alloc (by simp) _
theorem ziX (l:List Int):∀ u∈l.map (Value.int .i64),u.oneCell'=true:=fun u g=>by
 obtain⟨x,_,rfl⟩:=List.mem_map.1 g;rfl
theorem zk.news {w:World}{s:Sl}{l:List Int}(h:zk w s l):0<s.n->∃ j,s.p=some j∧∀ g u,(l.map (Value.int .i64))[g]? = some u->w.cell? (j.add g)=some u:=by
 obtain⟨b,T,I,P⟩:=h.at'.ex;refine fun t=>⟨⟨b,T,none⟩,I t,fun g u i=>?_⟩
 have U:=h.n;have o : g<l.length:=by
  have:=(List.getElem?_eq_some_iff.1 i).1;simpa using this
 have C:=(P g (by omega)).2 0 _ rfl;rw[List.getElem?_map,List.getElem?_eq_getElem o]at i;have R:u=.int .i64 (l.getD g 0):=by
  rw[List.getD_eq_getElem?_getD,List.getElem?_eq_getElem o];simpa using i.symm
 rw[R,zG];simpa using C
theorem zcN (ag:Nat) (s t:Sl) (l m:List Int) (w:World) (hh:w.heap[ag]? = some (.cells #[s.v,t.v] 37 (0,0))) (ac:zk w s l) (ad:zk w t m) (ai:(l.length+m.length)*8<=140737488351232):
  Calls prog 194 #[.slice (some ⟨ag,0,none⟩) 2 2] w fun e g=>∃ p n cap R,e=.returned (.slice p n cap)∧zB 3 1 p n cap ((l++m).map (Value.int .i64)) R∧Own w.heap.size g R∧Below w.heap.size w g:=by
 have a7:maxLen=9223372036854775807:=rfl;have ak:=ac.n;have al:=ad.n;have ae:=za ac;have af:=za ad;have I:=za (zd.cell (P:=prog) (T:=37) (v:=s.v) (off:=0) KM (zz hh) (by simp[World.cell?,hh]));have U:=za (zd.cell (P:=prog) (T:=37) (v:=t.v) (off:=1) KM (zz hh) (by simp[World.cell?,hh]));have ab:=fun g=>zga (l.length+m.length) (by omega) g
 rw[show (((l.length+m.length:Nat)):Int)=(l.length:Int)+(m.length:Int) by omega]at ab;have aq:=za ab;obtain⟨sp,aC,a1⟩:=s;obtain⟨ao,aD,a2⟩:=t;dsimp only at ak al;subst ak;subst al;clear ac ad hh ab;have i:=za ai;have a8:¬ ((l.length:Int)<0):=by omega
 have a9:¬ ((l.length:Int)+(m.length:Int)<0):=by omega
 clear ai;have a5:l.length<=140737488355328:=by have:=i.out;omega
 have a6:m.length<=140737488355328:=by have:=i.out;omega
 have ar:=za (fun (g : World) (j:Below w.heap.size w g)=>(show 0<l.length->∃ o,sp=some o∧∀ C u,(l.map (Value.int .i64))[C]? = some u->g.cell? (o.add C)=some u from (ae.out.grow j).news));have au:=za (fun (g : World) (j:Below w.heap.size w g)=>(show 0<m.length->∃ o,ao=some o∧∀ C u,(m.map (Value.int .i64))[C]? = some u->g.cell? (o.add C)=some u from (af.out.grow j).news));clear ae af;have J:=Loc.start w;go_enter func194,ntmps194;go_upto_region 10 with(first|(refine zL I.out J rfl rfl ?_)|(refine zL U.out J rfl rfl ?_)|((with_reducible refine wp_loop_rounds 3 ?_))|(with_reducible refine qm ?_)|(go_at_call 231;refine(aq.out _).mono ?_;rintro e aE ⟨aA,a3,av,rfl,ah,aj,j⟩;replace J:=J.gainTail j aj;simp only[List.nil_append]at J;clear j aj;dsimp only))
 go_upto_region 13 with(first|(refine zL I.out J rfl rfl ?_)|(refine zL U.out J rfl rfl ?_)|((with_reducible refine wp_loop_rounds 3 ?_))|(with_reducible refine qm ?_))
 go_upto_region 14 with(at_builtin;refine zF (K:=[]) (R:=av) (q:=sp) (m:=l.length) (c:=a1) (news:=l.map (Value.int .i64)) ah J rfl rfl rfl V4 zfY (by decide) rfl ?_ ?_ (ziX l) ?_ ?_ ?_;(case refine_1=>exact ar.out _ J.below);(case refine_2=>simp);(case refine_3=>(have:=i.out;omega));(case refine_4=>(have:=i.out;omega));clear J ah;intro aB a4 aw aF aa J;simp only[List.nil_append,Nat.zero_add]at J aa ⊢)
 go_upto_region 13 with(first|(refine zL I.out J rfl rfl ?_)|(refine zL U.out J rfl rfl ?_)|((with_reducible refine wp_loop_rounds 3 ?_))|(with_reducible refine qm ?_))
 go_upto_region 14 with(at_builtin;refine zF (K:=[]) (R:=aw) (q:=ao) (m:=m.length) (c:=a2) (news:=m.map (Value.int .i64)) aa J rfl rfl rfl V4 zfY (by decide) rfl ?_ ?_ (ziX m) ?_ ?_ ?_;(case refine_1=>exact au.out _ J.below);(case refine_2=>simp);(case refine_3=>(have:=i.out;omega));(case refine_4=>(have:=i.out;omega));clear J aa;intro a0 ay ax aH az J;simp only[List.nil_append]at J)
 go_wp2_with (first|((with_reducible refine wp_loop_rounds 3 ?_))|(with_reducible refine qm ?_));go_ret;exact⟨a0,l.length+m.length,ay,rfl,ax,az,J.own,J.below⟩
theorem KP:∀ {l m:List Int},l.Pairwise (fun a b=>a<b)->m.Pairwise (fun a b=>a<b)->(∀ x,x∈l↔x∈m)->l=m
 | [],[],_,_,_=>rfl
 | [],b::m,_,_,h=>absurd ((h b).2 List.mem_cons_self) (by simp)
 | a::l,[],_,_,h=>absurd ((h a).1 List.mem_cons_self) (by simp)
 | a::l,b::m,hl,hm,h=>by
  rw[List.pairwise_cons]at hl hm;have j:a=b:=by
   rcases List.mem_cons.1 ((h a).1 List.mem_cons_self) with e|e
   ·exact e
   ·rcases List.mem_cons.1 ((h b).2 List.mem_cons_self) with i|i
    ·exact i.symm
    ·have:=hl.1 b i
     have:=hm.1 a e;omega
  subst j;refine congrArg (a::·) (KP hl.2 hm.2 fun x=>⟨fun g=>?_,fun g=>?_⟩)
  ·rcases List.mem_cons.1 ((h x).1 (List.mem_cons_of_mem _ g)) with e|e
   ·subst e;exact absurd (hl.1 x g) (by omega)
   ·exact e
  ·rcases List.mem_cons.1 ((h x).2 (List.mem_cons_of_mem _ g)) with e|e
   ·subst e;exact absurd (hm.1 x g) (by omega)
   ·exact e
theorem Zp (d:Array Int) (t:∀ P g,P<=g->g<d.size->d[P]! <=d[g]!):∀ m,m<=d.size->(Lib.compactUpTo d m).Pairwise (fun a b=>a<b)∧∀ x,x∈Lib.compactUpTo d m↔∃ g,g<m∧d[g]! = x
 | 0,_=>⟨by simp[Lib.compactUpTo],fun x=>by simp[Lib.compactUpTo]⟩
 | m+1,hm=>by
  obtain⟨I,p⟩:=Zp d t m (by omega);rw[Lib.compactUpTo_succ];by_cases o:Lib.keeps d m=true
  ·rw[if_pos o]
   have C : m=0∨d[m]! ≠d[m - 1]! :=by simpa [Lib.keeps] using o
   refine⟨?_,fun x=>?_⟩
   ·rw[List.pairwise_append]
    refine⟨I,by simp,fun a R b T=>?_⟩;rw[List.mem_singleton.1 T];obtain⟨g,j,rfl⟩:=(p a).1 R;have U:=t g (m - 1) (by omega) (by omega);have aa:=t (m - 1) m (by omega) (by omega);rcases C with h|h
    ·omega
    ·have:d[m - 1]! ≠d[m]! :=fun e=>h e.symm
     omega
   ·rw[List.mem_append,List.mem_singleton,p]
    constructor
    ·rintro(⟨g,j,h⟩|h)
     ·exact⟨g,by omega,h⟩
     ·exact⟨m,by omega,h.symm⟩
    ·rintro⟨g,j,h⟩
     rcases Nat.lt_or_ge g m with i|i
     ·exact .inl ⟨g,i,h⟩
     ·obtain rfl:g=m:=by omega
      exact .inr h.symm
  ·rw[if_neg o,List.append_nil]
   have C : m≠0∧d[m]! = d[m - 1]! :=by
    have:¬ (m=0∨d[m]! ≠d[m - 1]!):=by simpa [Lib.keeps] using o
    exact⟨fun e=>this (.inl e),Classical.not_not.1 fun e=>this (.inr e)⟩
   refine⟨I,fun x=>?_⟩;rw[p];constructor
   ·rintro⟨g,j,h⟩
    exact⟨g,by omega,h⟩
   ·rintro⟨g,j,h⟩
    rcases Nat.lt_or_ge g m with i|i
    ·exact⟨g,i,h⟩
    ·obtain rfl:g=m:=by omega
     exact⟨g - 1,by omega,by rw[<- C.2];exact h⟩
theorem zbg {zs:List Int}(h:zs.Pairwise (fun a b=>a<=b)):(Lib.compact zs).Pairwise (fun a b=>a<b)∧∀ x,x∈Lib.compact zs↔x∈zs:=by
 have p:∀ i,i<zs.length->zs.toArray[i]! = zs.getD i 0:=fun i T=>by simp[List.getD_eq_getElem?_getD,T]
 have P:∀ i g,i<=g->g<zs.toArray.size->zs.toArray[i]! <=zs.toArray[g]! :=fun i g U j=>by
  have C : g<zs.length:=by simpa using j
  rw[p i (by omega),p g C,List.getD_eq_getElem?_getD,List.getD_eq_getElem?_getD,List.getElem?_eq_getElem (by omega),List.getElem?_eq_getElem C];show zs[i]<=zs[g]
  rcases Nat.lt_or_ge i g with o|o
  ·exact List.pairwise_iff_getElem.1 h i g (by omega) C o
  ·obtain rfl:i=g:=by omega
   exact Int.le_refl _
 obtain⟨o,I⟩:=Zp zs.toArray P zs.length (by simp);refine⟨o,fun x=>(I x).trans ?_⟩;constructor
 ·rintro⟨g,j,t⟩
  rw[p g j,List.getD_eq_getElem?_getD,List.getElem?_eq_getElem j]at t;have:zs[g]=x:=t;exact this▸List.getElem_mem j
 ·intro t
  obtain⟨g,j,R⟩:=List.mem_iff_getElem.1 t;exact⟨g,j,by rw[p g j,List.getD_eq_getElem?_getD,List.getElem?_eq_getElem j];exact R⟩
def yQ (l m:List Int):List Int:=Lib.compact ((l++m).mergeSort fun x y=>decide (x<=y))
def ZT (l m:List Int):List Int:=((List.range 60).map fun k:Nat=>(k:Int)).filter fun s=>jO l s || jO m s
def inS (l:List Int):Prop:=∀ x∈l,0<=x∧x<60
def Zr (l:List Int):Prop:=l.Pairwise (fun a b=>a<b)
theorem Qn (l m:List Int):Zr (yQ l m)∧∀ x,x∈yQ l m↔x∈l∨x∈m:=by
 have j:((l++m).mergeSort fun x y=>decide (x<=y)).Pairwise (fun a b=>a<=b):=by
  have:=List.pairwise_mergeSort (le:=fun x y:Int=>decide (x<=y)) (fun a b c g i=>by simp only[decide_eq_true_eq]at *;omega) (fun a b=>by simp only[Bool.or_eq_true,decide_eq_true_eq];omega) (l++m);exact this.imp (fun h=>by simpa using h)
 obtain⟨g,i⟩:=zbg j;exact⟨g,fun x=>by rw[yQ,i,List.mem_mergeSort,List.mem_append]⟩
theorem zey (l m:List Int):Zr (ZT l m):=by
 unfold ZT Zr;refine List.Pairwise.filter _ ?_;rw[List.pairwise_map];exact List.pairwise_lt_range.imp (fun h=>by omega)
theorem Ya {l m:List Int}(j:inS l) (o:inS m):yQ l m=ZT l m:=by
 obtain⟨g,i⟩:=Qn l m;refine KP g (zey l m) fun x=>?_
 rw[i,ZT,List.mem_filter,List.mem_map,Bool.or_eq_true,JY,JY];constructor
 ·intro h
  have p:0<=x∧x<60:=h.elim (j x) (o x);exact⟨⟨x.toNat,List.mem_range.2 (by omega),by omega⟩,h⟩
 ·exact fun h=>h.2
theorem U7 {l:List Int}(h:Zr l):yQ l []=l:=
 KP (Qn l []).1 h fun x=>by rw[(Qn l []).2];simp
def JA (l:List Int):Bool:=qa (fun k=>decide (l.getD (k+1) 0<=l.getD k 0)) (l.length - 1)
theorem zdj {l:List Int}(h:JA l=false):Zr l:=by
 have t:∀ k,k+1<l.length->l.getD k 0<l.getD (k+1) 0:=fun k R=>by
  have:¬ qa (fun k=>decide (l.getD (k+1) 0<=l.getD k 0)) (l.length - 1)=true:=by
   show ¬ JA l=true
   rw[h];decide
  rw[KO]at this;have P:¬ (l.getD (k+1) 0<=l.getD k 0):=fun e=>this ⟨k,by omega,by simpa using e⟩
  omega
 have I:∀ g i,i<g->g<l.length->l.getD i 0<l.getD g 0:=fun g=>by
  induction g with
  | zero=>intro i o;omega
  | succ g ih=>
   intro i o j;rcases Nat.lt_or_ge i g with p|p
   ·exact Int.lt_trans (ih i p (by omega)) (t g j)
   ·obtain rfl:i=g:=by omega
    exact t i j
 unfold Zr;rw[List.pairwise_iff_getElem];intro i g o j C;have:=I g i C j;rwa [List.getD_eq_getElem?_getD,List.getD_eq_getElem?_getD,List.getElem?_eq_getElem o,List.getElem?_eq_getElem j]at this
open Go.RowKit Go.Sort
theorem Xq (g:Nat) (s:Sl) (zs:List Int) (p:zs.length*8<=140737488351232) (w:World) (j:g<w.heap.size) (hc:w.cell? ⟨g,0,none⟩=some s.v) (o:zk w s zs):
  Calls prog 247 #[.slice none 0 0,.func (.func 230) #[] #[.pointer (some ⟨g,0,none⟩)]] w fun e i=>
   ∃ v,e=.returned v∧i.ownsRow w.heap.size 3 1 v zs.length (zs.map (Value.int .i64))∧Below w.heap.size w i:=
 (callsIn_wide (n:=3)).1 (G1 3 (Nat.le_refl _) g s zs p w j hc o)
theorem zcO (p:Option Addr) (len cap:Nat) (w:World):
  Calls prog 193 #[.slice p len cap] w fun e g=>e=.returned (.func (.func 230) #[] #[.pointer (some ⟨w.heap.size,0,none⟩)])∧g=w.alloc (.cells #[.slice p len cap] 37):=
 (callsIn_wide (n:=1)).1 (zex Fence.wide 1 trivial rfl p len cap w)
theorem zbh (g:Nat) (s:Sl) (zs:List Int) (C:zs.length*8<=140737488351232) (w:World) (p:g<w.heap.size) (hc:w.cell? ⟨g,0,none⟩=some s.v) (j:zk w s zs):
  Calls prog 228 #[.func (.func 230) #[] #[.pointer (some ⟨g,0,none⟩)]] w fun e i=>
   ∃ v,e=.returned v∧i.ownsRow w.heap.size 3 1 v zs.length (zs.map (Value.int .i64))∧Below w.heap.size w i:=by
 have o:=za (Xq g s zs C w p hc j);clear hc j;go_enter func228,ntmps228;go_wp2_with (go_at_call 247;refine o.out.mono ?_;rintro e P ⟨v,rfl,I,t⟩;dsimp only);go_ret;exact⟨v,rfl,I,t⟩
theorem zcP (g:Nat) (s:Sl) (zs:List Int) (ae:zs.length*8<=140737488351232) (w:World) (aa:g<w.heap.size) (hc:w.cell? ⟨g,0,none⟩=some s.v) (C:zk w s zs):
  Calls prog 192 #[.func (.func 230) #[] #[.pointer (some ⟨g,0,none⟩)]] w fun e t=>
   ∃ v,e=.returned v∧t.ownsRow w.heap.size 3 1 v zs.length ((zs.mergeSort fun x y=>decide (x<=y)).map (Value.int .i64))∧Below w.heap.size w t:=by
 have T:=za (zbh g s zs ae w aa hc C);clear hc C;have P:(zs.mergeSort fun x y=>decide (x<=y)).length=zs.length:=by simp
 have an:=za P;clear P;go_enter func192,ntmps192;go_wp2_with (go_at_call 228;refine T.out.mono ?_;rintro e i ⟨v,rfl,R,o⟩;dsimp only);rcases R.2 with⟨rfl,ag⟩|⟨gb,cap,ao,rfl,I,p,ah,ai,aj,ak⟩
 ·have af:zs=[]:=List.eq_nil_of_length_eq_zero ag
  subst af;go_wp2_with (go_at_call 229;refine(zcL none 0 i).mono ?_;rintro e al ⟨rfl,rfl⟩;dsimp only);go_ret;exact⟨.slice none 0 0,rfl,by simpa using R,o⟩
 ·have ab:Holds (Value.int .i64) i gb 0 zs.toArray:=holds_of_blockI p (by simpa using ak)
  have ac:gb<i.heap.size:=zz p;have U:=za (ziU gb 0 cap zs i ab ac (by omega));go_wp2_with (go_at_call 229;refine U.out.mono ?_;rintro e al ⟨rfl,ar,au,rfl⟩;dsimp only);go_ret;exact⟨_,rfl,ownsRow_sortedI (by simp) I p ah ai aj,o.grown (grownBy_sortedI _) o.size (fun j ad=>by cases ad;exact I)⟩
theorem zbi (base:Nat) (v:Value) (n:Nat) (zs:List Int) (w0 w:World) (ac:base=w0.heap.size) (hn:zs.length=n) (ah:w.ownsRow base 3 1 v n (zs.map (Value.int .i64))) (hb:Below w0.heap.size w0 w):
  Calls prog 191 #[v] w fun e W'=>∃ (s:Sl) (o:List zg),e=.returned s.v∧zB 3 1 s.p s.n s.cap ((Lib.compact zs).map (Value.int .i64)) o∧Own w0.heap.size W' o∧Below w0.heap.size w0 W':=by
 subst ac hn;rcases ah.2 with⟨rfl,aj⟩|⟨i,cap,t,rfl,I,R,ab,ak,al,an⟩
 ·have ai:zs=[]:=List.eq_nil_of_length_eq_zero aj
  subst ai;refine(Xb none 0 w).mono ?_;rintro e W' ⟨rfl,rfl⟩;exact⟨zi,[],rfl,zB.nil,Own.nil,hb⟩
 ·have ad:Holds (Value.int .i64) w i 0 zs.toArray:=holds_of_blockI R (by simpa using an)
  have ao:maxLen=9223372036854775807:=rfl;refine(zf8 i 0 cap zs w ad (by omega) ab).mono ?_;rintro e W' ⟨rfl,q,rfl⟩;have U:(Lib.compact zs).length<=zs.length:=by
   unfold Lib.compact Lib.compactUpTo;rw[List.length_map];exact Nat.le_trans (List.length_filter_le _ _) (by simp)
  have P:=grownBy_sortedI (w:=w) (g:=i) (n:=q) (os:=#[]) (Lib.compact zs++List.replicate (zs.length - (Lib.compact zs).length) 0).toArray;have T:=heap_sortedI (n:=q) (os:=#[]) (Lib.compact zs++List.replicate (zs.length - (Lib.compact zs).length) 0).toArray R;rw[grow_empty]at P T;have aa:=take_putCellsI t (Lib.compact zs++List.replicate (zs.length - (Lib.compact zs).length) 0) (by simp;omega);have ag:(Lib.compact zs++List.replicate (zs.length - (Lib.compact zs).length) 0).length=zs.length:=by simp;omega
  rw[ag]at aa;refine⟨⟨some ⟨i,0,none⟩,(Lib.compact zs).length,cap⟩,[(i,3,(putCells (Value.int .i64) 0 (Lib.compact zs++List.replicate (zs.length - (Lib.compact zs).length) 0).toArray t).toList)],rfl,⟨by simp,.inr ⟨i,_,rfl,rfl,Nat.le_trans U ab,ak,?_,?_⟩⟩,⟨by simp,fun e ae=>?_⟩,hb.grown P hb.size (fun j af=>by cases af;exact I)⟩
  ·simp[putCells,al]
  ·have C:=congrArg (fun l=>l.take (Lib.compact zs).length) aa
   simp only[List.take_take,Nat.min_eq_left U]at C;rw[Nat.mul_one,C,List.map_append,List.take_append_of_le_length (by simp)];exact List.take_of_length_le (by simp)
  ·rw[List.mem_singleton.1 ae]
   refine⟨I,?_⟩;dsimp only;rw[Array.toArray_toList];exact T
theorem zir:q5 prog 251 37 [.slice none 0 0]:=⟨by kernel_rfl,⟨by kernel_rfl⟩,⟨by kernel_rfl⟩⟩
theorem zcQ (s t:Sl) (l m:List Int) (w:World) (af:zk w s l) (ag:zk w t m) (hlen:(l.length+m.length)*8<=140737488351232):
  Calls prog 152 #[s.v,t.v] w fun e al=>∃ (r:Sl) (R:List zg),e=.returned r.v∧zB 3 1 r.p r.n r.cap ((yQ l m).map (Value.int .i64)) R∧Own w.heap.size al R∧Below w.heap.size w al:=by
 have an:=za af;have ar:=za ag;have ao:=za hlen;have aq:=za (show (l++m).length*8<=140737488351232 by rw[List.length_append];exact hlen);have au:=za (show ((l++m).mergeSort fun x y=>decide (x<=y)).length=(l++m).length by simp);clear af ag hlen;have J:=Loc.start w;go_enter func152,ntmps152;go_wp2_with (first|(with_reducible refine lbs (z:=[.slice none 0 0]) (hT:=zir) J ?_;clear J;intro ax a1 J)|(go_at_call 194;refine(zcN ax s t l m _ (J.heap cIn) (an.out.grow J.below) (ar.out.grow J.below) ao.out).mono ?_;rintro e j ⟨U,T,I,a0,rfl,ai,ah,ab⟩;replace J:=J.grow ab;have g:=ai.ints ah;clear ai ah ab;dsimp only)|(go_at_call 193;refine(zcO U T I _).mono ?_;rintro e o ⟨rfl,i⟩;have P:Below j.heap.size j o:=(by rw[i];exact(Below.refl _ _).alloc (Nat.le_refl _) _);have ae:o.cell? ⟨j.heap.size,0,none⟩=some (Sl.v ⟨U,T,I⟩):=(by rw[i];exact cell_one_new _ _ _ 0 _ rfl);have ak:j.heap.size<o.heap.size:=(by rw[i];simp);replace J:=J.grow P;replace g:=g.grow P;clear P i;dsimp only)|(go_at_call 192;refine(zcP _ ⟨U,T,I⟩ (l++m) aq.out _ ak ae g).mono ?_;rintro e az ⟨v4,rfl,aj,ac⟩;clear ak ae g;dsimp only)|(go_at_call 191;refine(zbi _ v4 _ _ o az rfl au.out aj ac).mono ?_;rintro e a2 ⟨ay,aw,rfl,av,C,ad⟩;replace C:=C.mono J.below.size;replace J:=J.grow ad;clear aj ac ad;dsimp only));go_ret;exact⟨ay,aw,rfl,av,C,J.below⟩
def SlR (B:Nat) (l:List Int):Value->World->Prop:=fun v w=>∃ (r:Sl) (g:List zg),v=r.v∧zB 3 1 r.p r.n r.cap (l.map (Value.int .i64)) g∧Own B w g
theorem SlR.stable {B:Nat}{l:List Int}:∀ v w g,Below w.heap.size w g->SlR B l v w->SlR B l v g:=fun _ _ _ t ⟨r,i,j,o,p⟩=>⟨r,i,j,o,p.grow t⟩
def GuR (B:Nat) (a:Bool) (s:zm) (b c:Bool) (l:List Int):Value->World->Prop:=fun v w=>∃ (r:Sl) (g:List zg),v=Gu.v ⟨a,s,b,c,r⟩∧zB 3 1 r.p r.n r.cap (l.map (Value.int .i64)) g∧Own B w g
theorem GuR.stable {B:Nat}{a:Bool}{s:zm}{b c:Bool}{l:List Int}:∀ v w g,Below w.heap.size w g->GuR B a s b c l v w->GuR B a s b c l v g:=fun _ _ _ t ⟨r,i,j,o,p⟩=>⟨r,i,j,o,p.grow t⟩
theorem Yb (K:FuncId) (f:zm->zm->zm) (aH:∀ args w,(callFunc K args).run prog w=.ok (.enter K args) w)
  (hf:∀ (s t:zm) (w:World),Calls prog K #[s.v,t.v] w fun e j=>e=.returned (f s t).v∧Below w.heap.size w j)
  (g h:Gu) (l m:List Int) (w:World) (af:zk w g.s l) (ai:zk w h.s m) (ah:(l.length+m.length)*8<=140737488351232):
  Calls prog 104 #[g.v,h.v,.func (.func K) #[] #[]] w fun e j=>∃ r:Sl,e=.returned (Gu.v ⟨g.null || h.null,f g.span h.span,g.tr || h.tr,g.fa || h.fa,r⟩)∧QO w.heap.size j r (yQ l m)∧Below w.heap.size w j:=by
 have P:=za (fun j (i:Below w.heap.size w j)=>zcQ g.s h.s l m j (af.grow i) (ai.grow i) ah);have I:=za (fun j=>hf g.span h.span j);clear af ai ah hf;obtain⟨ae,⟨az,ay,ax⟩,gt,ad,⟨aE,gk,gc⟩⟩:=g;obtain⟨ag,⟨a4,a3,a2⟩,aj,hf,⟨aJ,aI,aF⟩⟩:=h;dsimp only at P I;generalize a1:f ⟨az,ay,ax⟩ ⟨a4,a3,a2⟩=aw at I ⊢;obtain⟨fn,ac,ab⟩:=aw;clear a1;generalize yQ l m=p at P ⊢;have J:=Loc.start w;go_enter func104,ntmps104;go_step;go_step;go_step
 ((with_reducible refine lbx J ?_);clear J;intro aB o J)
 ((with_reducible refine lbx J ?_);clear J;intro aC o J)
 ((with_reducible refine lal J ?_);clear J;intro aD o J)
 go_upto_region 1 with(fail)
 simp only[Act.put,List.setIfInBounds_toArray,List.set_cons_zero,List.set_cons_succ];refine zb [7,8,9,10,11,12,13,14,15,16,17,18,19,20,21,22,23,24,25,26,27,28,29,30,31,32,33,34,35,36] ?_
 iterate 11 refine qda ?_
 refine qdk J (fun _ i J=>I.out _) ?_
 iterate 16 refine qda ?_
 refine qdn (SlR o.heap.size p) SlR.stable J ?_ ?_
 ·intro g w i J _ q;simp only[aG]at q;simp only[fD];simp only[q]
  go_wp2_with (go_at_call 152;(with_reducible refine(P.out _ J.below).mono ?_);rintro e aK ⟨r,R,rfl,a6,a5,a0⟩;dsimp only);exact⟨rfl,_,rfl,a0,r,R,rfl,a6,a5.mono i.size⟩
 refine qdn (GuR o.heap.size (or ae ag) ⟨fn,ac,ab⟩ (or gt aj) (or ad hf) p) GuR.stable J ?_ ?_
 ·intro g w i J V q;simp only[aG]at q;have d28:(SlR o.heap.size p) (g 35) w:=yr V 28;obtain⟨⟨ao,aq,ar⟩,aa,d28,T,U⟩:=d28;clear V;simp only[fD];simp only[q,d28]
  go_wp2_with (fail);exact⟨rfl,_,rfl,Below.refl _ _,⟨ao,aq,ar⟩,aa,rfl,T,U⟩
 refine qy J ?_;intro g an i hR q;simp only[aG]at q;have e28:(SlR o.heap.size p) (g 35) an:=qye hR 28;obtain⟨⟨ao,aq,ar⟩,aa,e28,T,U⟩:=e28;have C:(GuR o.heap.size (or ae ag) ⟨fn,ac,ab⟩ (or gt aj) (or ad hf) p) (g 36) an:=qye hR 29;obtain⟨⟨a8,a9,aA⟩,av,C,a7,ak⟩:=C;clear hR;simp only[fD];simp only[q,e28,C];clear q e28 C;replace J:=J.gainTail i ak;simp only[aX]at J;clear i;clear T U ak;go_wp2_with (with_reducible refine zc J ?_;clear J;intro o J);refine rt1 ?_;exact⟨⟨a8,a9,aA⟩,rfl,⟨av,a7,J.ownOf (List.sublist_append_right [_,_,_] _)⟩,J.below⟩
end Go.Proofs.YtplcndmdkabmeaaGreatDoor
