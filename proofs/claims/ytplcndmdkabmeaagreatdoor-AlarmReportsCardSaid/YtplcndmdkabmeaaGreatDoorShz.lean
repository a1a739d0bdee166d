/- The contracts of slices.Sort and slices.Compact at ints at this dump, as the kit's own printers (lay-shelf.mjs, lay-plain.mjs) write them. Conditions: the ints lie in memory. | The walks over slices.Values, its iterator, slices.AppendSeq, slices.Collect and slices.Sorted at ints. Conditions: the ints lie in memory that was there; as many as the model's memory bears. | The walks over slices.Grow of nil and slices.Concat of two slices of ints. Conditions: the ints lie in memory that was there; as many as the model's memory bears. | Plain facts on lists of ints: sorted and compacted they are the ascending list of their members. Conditions: none. | The walks over slices.Collect, slices.Sorted, slices.Compact at ints, and over guess.sites: both lists' members, ascending. Conditions: the ints lie in memory that was there; as many as the model's memory bears. | The walk over guess.Both: two guesses together, their spans by a function that is handed in. Conditions: the sites lie in memory that was there. -/
import Derived.Shelf.Sort.Plain
import Derived.Shelf.Slices.CompactI
import Derived.Shelf.Slices.In.SortNone
import Derived.Test.YtplcndmdkabmeaaGreatDoorRows
import Derived.RangeFuncNested
import Derived.RangeFuncBound
import Derived.RangeFuncCalls
import Derived.RangeFuncLeaves
import Derived.RangeFuncBox
import Derived.Shelf.Abstract
import Derived.Shelf.RegionOpen
import Derived.WalkKit
import Derived.OwnWalkIn
import Derived.TacticsInMore
import Derived.LoopNIn
import Derived.LoopIn
import Derived.Maps.AppendAt
import Derived.Sort.OwnSortedInts
import Derived.Test.YtplcndmdkabmeaaGreatDoorCod
import Derived.Lib.AppendZeros
import Derived.Test.YtplcndmdkabmeaaGreatDoorLib
import Derived.Test.YtplcndmdkabmeaaGreatDoorGua
import Derived.Lib.SlicesCompact
set_option linter.unusedSimpArgs false
set_option linter.unusedVariables false
set_option maxRecDepth 100000
set_option maxHeartbeats 4000000
namespace Go.Proofs.YtplcndmdkabmeaaGreatDoor
open Go.RowKit
open Go.Shelf
def Gp:Go.Shelf.Ren:=⟨fun|189=>229|125=>249|257=>248|128=>263|129=>220|294=>254|295=>255|296=>256|297=>257|298=>258|299=>259|216=>260|300=>261|301=>262|328=>266|329=>267|330=>268|331=>269|332=>270|215=>271|343=>272|n=>n,fun|28=>37|3=>3|46=>197|0=>0|51=>236|53=>208|4=>4|183=>276|182=>275|131=>83|5=>5|9=>9|218=>291|222=>163|228=>296|229=>297|n=>n,fun|n=>n⟩
theorem zaD:Go.Proofs.Lays.n189 Tryz.prog Gp:={
 mixed:=by kernel_rfl
 f125:=Tryz.func249.trans (congrArg some (by kernel_rfl))
 f128:=Tryz.func263.trans (congrArg some (by kernel_rfl))
 f129:=Tryz.func220.trans (congrArg some (by kernel_rfl))
 f189:=Tryz.func229.trans (congrArg some (by kernel_rfl))
 f215:=Tryz.func271.trans (congrArg some (by kernel_rfl))
 f216:=Tryz.func260.trans (congrArg some (by kernel_rfl))
 f257:=Tryz.func248.trans (congrArg some (by kernel_rfl))
 f294:=Tryz.func254.trans (congrArg some (by kernel_rfl))
 f295:=Tryz.func255.trans (congrArg some (by kernel_rfl))
 f296:=Tryz.func256.trans (congrArg some (by kernel_rfl))
 f297:=Tryz.func257.trans (congrArg some (by kernel_rfl))
 f298:=Tryz.func258.trans (congrArg some (by kernel_rfl))
 f299:=Tryz.func259.trans (congrArg some (by kernel_rfl))
 f300:=Tryz.func261.trans (congrArg some (by kernel_rfl))
 f301:=Tryz.func262.trans (congrArg some (by kernel_rfl))
 f328:=Tryz.func266.trans (congrArg some (by kernel_rfl))
 f329:=Tryz.func267.trans (congrArg some (by kernel_rfl))
 f330:=Tryz.func268.trans (congrArg some (by kernel_rfl))
 f331:=Tryz.func269.trans (congrArg some (by kernel_rfl))
 f332:=Tryz.func270.trans (congrArg some (by kernel_rfl))
 f343:=Tryz.func272.trans (congrArg some (by kernel_rfl))
 t0:=Tryz.underlying0
 a0:=Tryz.isAgg0
 z0:=Tryz.sizeOf0
 v0:=Tryz.zeroValue0
 t3:=Tryz.underlying3
 a3:=Tryz.isAgg3
 z3:=Tryz.sizeOf3
 v3:=Tryz.zeroValue3
 t4:=Tryz.underlying4
 a4:=Tryz.isAgg4
 z4:=Tryz.sizeOf4
 v4:=Tryz.zeroValue4
 t5:=Tryz.underlying5
 a5:=Tryz.isAgg5
 z5:=Tryz.sizeOf5
 v5:=Tryz.zeroValue5
 t9:=Tryz.underlying9
 a9:=Tryz.isAgg9
 z9:=Tryz.sizeOf9
 v9:=Tryz.zeroValue9
 t28:=Tryz.underlying37
 a28:=Tryz.isAgg37
 z28:=Tryz.sizeOf37
 v28:=Tryz.zeroValue37
 t46:=Tryz.underlying197
 a46:=Tryz.isAgg197
 z46:=Tryz.sizeOf197
 v46:=Tryz.zeroValue197
 t51:=Tryz.underlying236
 a51:=Tryz.isAgg236
 z51:=Tryz.sizeOf236
 v51:=Tryz.zeroValue236
 t53:=Tryz.underlying208
 a53:=Tryz.isAgg208
 z53:=Tryz.sizeOf208
 v53:=Tryz.zeroValue208
 t131:=Tryz.underlying83
 a131:=Tryz.isAgg83
 z131:=Tryz.sizeOf83
 v131:=Tryz.zeroValue83
 t182:=Tryz.underlying275
 a182:=Tryz.isAgg275
 z182:=Tryz.sizeOf275
 v182:=Tryz.zeroValue275
 t183:=Tryz.underlying276
 a183:=Tryz.isAgg276
 z183:=Tryz.sizeOf276
 v183:=Tryz.zeroValue276
 t218:=Tryz.underlying291
 a218:=Tryz.isAgg291
 z218:=Tryz.sizeOf291
 v218:=Tryz.zeroValue291
 t222:=Tryz.underlying163
 a222:=Tryz.isAgg163
 z222:=Tryz.sizeOf163
 v222:=Tryz.zeroValue163
 t228:=Tryz.underlying296
 a228:=Tryz.isAgg296
 z228:=Tryz.sizeOf296
 v228:=Tryz.zeroValue296
 t229:=Tryz.underlying297
 a229:=Tryz.isAgg297
 z229:=Tryz.sizeOf297
 v229:=Tryz.zeroValue297 }
open Go.Sort Go.RowKit in
theorem zgW (blk off cap:Nat) (zs:List Int) (w:World) (hH:Holds (Value.int .i64) w blk off zs.toArray) (hblk:blk<w.heap.size) (hsz:zs.length<4611686018427387904):
  Calls Tryz.prog 229 #[.slice (some ⟨blk,off,none⟩) zs.length cap] w fun e w'=>
   e=.returned (.tuple #[])∧∃ n os,w'=grow (putRow (Value.int .i64) (Sort.ahead w n) blk off (zs.mergeSort fun x y=>decide (x≤y)).toArray) os:=Any.slices_Sort_int zaD blk off cap zs w hH hblk hsz
def Ux:Go.Shelf.Ren:=⟨fun|20=>191|n=>n,fun|22=>37|3=>3|4=>4|0=>0|n=>n,fun|n=>n⟩
theorem Uu:Go.Proofs.Lays2.n20 Tryz.prog Ux:={
 mixed:=by kernel_rfl
 f20:=Tryz.func191.trans (congrArg some (by kernel_rfl))
 t0:=Tryz.underlying0
 a0:=Tryz.isAgg0
 z0:=Tryz.sizeOf0
 v0:=Tryz.zeroValue0
 t3:=Tryz.underlying3
 a3:=Tryz.isAgg3
 z3:=Tryz.sizeOf3
 v3:=Tryz.zeroValue3
 t4:=Tryz.underlying4
 a4:=Tryz.isAgg4
 z4:=Tryz.sizeOf4
 v4:=Tryz.zeroValue4
 t22:=Tryz.underlying37
 a22:=Tryz.isAgg37
 z22:=Tryz.sizeOf37
 v22:=Tryz.zeroValue37
 i3:=by kernel_rfl }
open Go.RowKit Go.Lib Go.Sort in
theorem zeQ (blk off cap:Nat) (zs:List Int) (w:World) (hH:Holds (Value.int .i64) w blk off zs.toArray) (hsz:zs.length≤9223372036854775807) (hcap:zs.length≤cap):
  Calls Tryz.prog 191 #[.slice (some ⟨blk,off,none⟩) zs.length cap] w fun e w'=>e=.returned (.slice (some ⟨blk,off,none⟩) (Lib.compact zs).length cap)∧∃ q,w'=putRow (Value.int .i64) (Sort.ahead w q) blk off (Lib.compact zs++List.replicate (zs.length - (Lib.compact zs).length) 0).toArray:=Any.slices_Compact_int Uu blk off cap zs w hH hsz hcap
theorem VP (a:Option Addr) (cap:Nat) (w:World):
  Calls Tryz.prog 191 #[.slice a 0 cap] w fun e w'=>e=.returned (.slice a 0 cap)∧w'=w:=Any.slices_Compact_int_empty Uu a cap w
open Go.RowKit Go.Sort in
theorem zbO (p:Option Addr) (cap:Nat) (w:World):
  Calls Tryz.prog 229 #[.slice p 0 cap] w fun e w'=>e=.returned (.tuple #[])∧w'=w:=Any.slices_Sort_int_none zaD p cap w
open Go.RowKit Go.Shelf
attribute [local go_sem] Oper.semAt_some
theorem zgX:(Tryz.prog.info? 3).map (fun i=>(i.zero,i.size,i.bytes))=some (some (.int .i64 0),1,8):=by kernel_rfl
theorem zhf:Tryz.prog.underlying 37=some (.slice 3):=by kernel_rfl
theorem zeR (F:Fence) (n:Nat) (hF:F.fn 230) (hro:F.round=none) (hn:1≤n) (l Bs n₀:Nat) (p:Option Addr) (b off len cap:Nat) (zs:List Int) (hp:0<len→p=some ⟨b,off,none⟩) (hreach:len*8≤140737488351232) (hb:0<len→b<n₀) (J Jx:List Int→World→Prop)
  (hY:∀ pre x W,J pre W→pre.length<len→YieldAt F (n - 1) Tryz.prog l #[.int .i64 x] W fun e W'=>
   (e=.returned (.bool true)∧J (pre++[x]) W'∧Below n₀ W W')∨(e=.returned (.bool false)∧Jx (pre++[x]) W'))
  (W:World) (hBs:W.cell? ⟨Bs,0,none⟩=some (.slice p len cap)) (hc:∀ j,j<len→W.cell? ⟨b,off+j,none⟩=some (.int .i64 (zs[j]?.getD 0))) (hz:len=zs.length) (h0:J [] W):
  CallsIn F n Tryz.prog 230 #[.func (.yield l) #[] #[],.pointer (some ⟨Bs,0,none⟩)] W fun e W'=>(∃ v,e=.returned v)∧
   ((∃ ys,ys=zs∧J ys W')∨(∃ pre,pre <+: zs∧Jx pre W')):=by
 have htk:∀ k,k<zs.length→zs.take (k+1)=zs.take k++[zs[k]?.getD 0]:=fun k hk=>by
  rw[List.take_add_one,List.getElem?_eq_getElem hk];rfl
 refine callsIn_of_wp Tryz.func230 rfl hF ?_ hro
 simp only[Tryz.ntmps230,List.size_toArray,List.length_cons,List.length_nil,Nat.reduceAdd,Nat.reduceSub,Array.replicate_succ,Array.replicate_zero,List.push_toArray,List.append_toArray,List.nil_append,List.cons_append]
 gi_wp2
 gi_loopw [7] (fun i wr=>∃ k:Nat,k≤len∧i=.int .i64 k∧J (zs.take k) wr∧Below n₀ W wr)
  (fun i _=>len - (intOf i).toNat)
 case atStart=>exact⟨0,Nat.zero_le _,rfl,h0,Below.refl _ _⟩
 case round=>
  obtain⟨k,hk,rfl,hJs,hnx⟩:=hrel
  by_cases hlt:k<len
  ·obtain rfl:=hp (by omega)
   have hcx:wr.cell? ⟨b,off+k,none⟩=some (.int .i64 (zs[k]?.getD 0)):=(hnx.cell (p:=⟨b,off+k,none⟩) (hb (by omega))).trans (hc k hlt)
   have hy0:=hY _ (zs[k]?.getD 0) wr hJs (by rw[List.length_take];omega)
   have htk':=htk k (by omega)
   generalize zs[k]?.getD 0=x at hcx hy0 htk'
   have HT:=Lib.hid htk'
   obtain⟨fn,tmps,assign,body,hy,hR⟩:=hy0
   clear hp htk'
   gi_wp2
   refine hR.mono ?_
   rintro e W3 (⟨rfl,hJ3,hk3⟩|⟨rfl,hJx3⟩)
   ·gi_wp2
    go_roundw
    case rel=>exact⟨k+1,by omega,by simp,by rw[HT.out];exact hJ3,hnx.trans hk3⟩
    case measure=>simp[intOf];omega
   ·gi_wp2
    refine bodyPost_ret (results_none rfl _ _ _) rfl ?_
    exact⟨⟨_,rfl⟩,.inr ⟨_,by rw[← HT.out];exact List.take_prefix _ _,hJx3⟩⟩
  ·obtain rfl:k=len:=by omega
   gi_wp2
   go_end0
   exact⟨⟨_,rfl⟩,.inl ⟨_,by rw[hz,List.take_length],hJs⟩⟩
theorem zds (F:Fence) (n:Nat) (hF:F.fn 193) (hro:F.round=none) (p:Option Addr) (len cap:Nat) (w:World):
  CallsIn F n Tryz.prog 193 #[.slice p len cap] w fun e w'=>e=.returned (.func (.func 230) #[] #[.pointer (some ⟨w.heap.size,0,none⟩)])∧w'=w.alloc (.cells #[.slice p len cap] 37):=by
 refine callsIn_of_wp Tryz.func193 rfl hF ?_ hro
 simp only[Tryz.ntmps193,List.size_toArray,List.length_cons,List.length_nil,Nat.reduceAdd,Nat.reduceSub,Array.replicate_succ,Array.replicate_zero,List.push_toArray,List.append_toArray,List.nil_append,List.cons_append]
 gi_wp2
 go_ret
 exact⟨rfl,rfl⟩
theorem zbP (F:Fence) (n:Nat) (hF:F.fn 230) (hro:F.round=none) (hn:1≤n) (Bs n₀:Nat) (s:Sl) (zs:List Int) (hreach:zs.length*8≤140737488351232) (w:World) (hBs:Bs<w.heap.size) (hn₀:n₀≤w.heap.size)
  (hc:w.cell? ⟨Bs,0,none⟩=some s.v) (w0:World) (h0:w0.heap.size=n₀) (hw0:Below n₀ w0 w) (hI:zp w0 s zs):
  SeqStopsK F n Tryz.prog 230 #[.pointer (some ⟨Bs,0,none⟩)] (fun x:Int=>#[Value.int .i64 x]) (Below n₀) (fun ys=>ys=zs) (fun pre=>pre <+: zs) zs.length w:=fun l J Jx W hW _ _ hY h0'=>by
 have hc':=(hW.cell (p:=⟨Bs,0,none⟩) hBs).trans hc
 obtain⟨b,off,hp,hr⟩:=hI.at'.ex
 have hz:=hI.n
 subst h0
 obtain⟨p,len,cap⟩:=s
 dsimp only at hp hr hz hc'
 subst hz
 refine zeR F n hF hro hn l Bs w0.heap.size p b off zs.length cap zs hp hreach (fun h=>(hr 0 h).1) J Jx hY W hc' (fun j hj=>?_) rfl h0'
 have h1:=(hr j hj).2 0 (.int .i64 (zs.getD j 0)) rfl
 have h2:=(hr j hj).1
 simp only[Nat.mul_one,Nat.add_zero]at h1
 have h3:Below w0.heap.size w0 W:=hw0.trans (hW.mono hn₀)
 rw[h3.cell (p:=⟨b,off+j,none⟩) h2,h1,List.getD_eq_getElem?_getD]
theorem Gq (n:Nat) (hn:3≤n) (Bs:Nat) (s:Sl) (zs:List Int) (hreach:zs.length*8≤140737488351232) (w:World) (hBs:Bs<w.heap.size)
  (hc:w.cell? ⟨Bs,0,none⟩=some s.v) (hI:zp w s zs):
  CallsIn Fence.wide n Tryz.prog 247 #[.slice none 0 0,.func (.func 230) #[] #[.pointer (some ⟨Bs,0,none⟩)]] w fun e W'=>
   ∃ v,e=.returned v∧W'.ownsRow w.heap.size 3 1 v zs.length (zs.map (Value.int .i64))∧Below w.heap.size w W':=by
 have h1:1≤n:=by omega
 obtain⟨i0,hi,hz0,hz1,hz2⟩:=info_parts zgX
 have hmx:maxLen=9223372036854775807:=rfl
 refine callsIn_of_wp_marks Tryz.func247 rfl trivial ?_ rfl
 simp only[Tryz.ntmps247,List.size_toArray,List.length_cons,List.length_nil,Nat.reduceAdd,Nat.reduceSub,Array.replicate_succ,Array.replicate_zero,List.push_toArray,List.append_toArray,List.nil_append,List.cons_append]
 gi_wp2
 have bS:=Boxed.new w 37 (.slice none 0 0)
 have hB0:Below w.heap.size w (w.alloc (.cells #[.slice none 0 0] 37)):=(Below.refl _ w).alloc (Nat.le_refl _) _
 refine wpIn_rangeFunc_ownG rfl h1 (gf:=230) (lb:=#[.pointer (some ⟨Bs,0,none⟩)]) rfl trivial (enters_of Tryz.func230 (by kernel_rfl) rfl)
  (zbP Fence.wide (n - 1) trivial rfl (by omega) Bs w.heap.size s zs hreach _ (by simp;omega) (by simp) ((hB0.cell (p:=⟨Bs,0,none⟩) hBs).trans hc) w rfl hB0 hI) belowK_t (belowK_b (by simp)) (Below.refl _ _) (fun _=>rfl)
  (fun pre W=>(∃ v,Boxed W w.heap.size 37 v∧W.ownsRow w.heap.size 3 1 v pre.length (pre.map (Value.int .i64))∧(v=.slice none 0 0↔pre=[]))∧Below w.heap.size w W)
  (fun _ _ _=>False)
  (OwnFrom.and (Go.Own.from (holdsRow_own w.heap.size w.heap.size 37 3 1 (fun pre:List Int=>pre.length) (fun pre=>pre.map (Value.int .i64)) (fun pre v=>(v=.slice none 0 0↔pre=[]))) _) (ownFrom_below (Nat.le_refl _) (by simp)))
  (fun _ _ _ _ _ hs _ _=>hs)
  ⟨⟨_,bS,World.ownsRow_nil _ _ _ _,by simp⟩,hB0⟩
  (fun x=>{ tmps:=#[.slice none 0 0,.func (.func 230) #[] #[.pointer (some ⟨Bs,0,none⟩)],.pointer (some ⟨w.heap.size,0,none⟩),undef,.slice none 0 0,.int .i64 x,.func (.func 230) #[] #[.pointer (some ⟨Bs,0,none⟩)],.int .i64 x,undef,undef,undef,undef,undef],defers:=[] }) ?assign ?body ?done ?stop
 case assign=>
  intro l x W K hK
  gi_wp2
  exact hK
 case body=>
  rintro l pre x W ⟨⟨v,hv,hrow,hnil⟩,hB⟩ hlt
  have hvc:=hv.cell
  have hlt' : pre.length<zs.length:=hlt
  gi_wp2_with (gi_at_builtin;refine wpListIn_append_own _ rfl _ _ 37 rfl w.heap.size 3 i0 (.int .i64 0) 1 8 zhf hi hz0 hz1 hz2 rfl (by decide) _ _ _ rfl (hrow.alloc _) ⟨W.heap.size,0,none⟩ 1 1 [.int .i64 x] rfl rfl (cell_one_new _ _ _) (by simp[Value.oneCell']) (by omega) (by omega) (by have:=hB.size;simp;omega) ?_;intro v' w1 hown' hgrow _;obtain⟨g',cap',rfl⟩:=ownsRow_succ hown';obtain⟨hv1,hv2,hr2,hk2,hb2⟩:=hv.appended (by decide) hrow hB.size (Nat.le_refl _) hown' hgrow;have hc1:=hv1.cell;have hf1:=hv1.frozen)
  exact⟨hk2.from _,hb2,⟨_,hv2,by simpa using hr2,by simp⟩,hB.trans hb2⟩
 case done=>
  rintro D ys W hD rfl ⟨⟨v,hv,hrow,hnil⟩,hB⟩ hK
  have hvc:=hv.cell
  gi_wp2
  refine⟨by simp,.inl ⟨_,_,rfl,run_takeDeferred hK,?_⟩⟩
  exact⟨_,results_tmp rfl _ _ _,v,rfl,ownsRow_putObj hrow _ hK rfl,hB.trans (belowK_b (w:=w) (Nat.le_refl _) W D _ _ (by simp at hD;omega) hK rfl rfl)⟩
 case stop=>
  rintro D c pre W _ _ h _
  exact h.elim
theorem zgY:(Tryz.prog.info? 3).map (fun i=>(i.zero,i.size,i.bytes))=some (some (.int .i64 0),1,8):=by kernel_rfl
theorem zhg:Tryz.prog.underlying 37=some (.slice 3):=by kernel_rfl
theorem zeS (n:Nat) (hn:n*8≤140737488355328) (w:World):
  Calls Tryz.prog 231 #[.slice none 0 0,.int .i64 n] w fun e w'=>∃ p cap R,e=.returned (.slice p 0 cap)∧zM 3 1 p 0 cap [] R∧Own w.heap.size w' R∧Below w.heap.size w w':=by
 rcases Nat.eq_zero_or_pos n with rfl|h0
 ·go_enter Tryz.func231,Tryz.ntmps231
  go_wp2
  go_ret
  exact⟨none,0,[],rfl,zM.nil,Own.nil,Below.refl _ _⟩
 ·obtain⟨i0,hi,hz0,hz1,hz2⟩:=info_parts zgY
  have hmx:maxLen=9223372036854775807:=rfl
  have undk:Tryz.prog.underlying 3=some (.int .i64):=by kernel_rfl
  have HR:=Lib.hid (fun ty=>Lib.run_append_nil_zeros (P:=Tryz.prog) w 37 3 ty 3 i0 (.int .i64 0) .i64 .i64 zhg undk hi hz0 n h0 (by omega) (by omega) (by rw[hz2];omega))
  have hc1:=grownCap_ge w n 0 3
  have hc2:=grownCap_le_maxLen w n 0 3 (by omega)
  generalize grownCap w n 0 3=cap at HR hc1 hc2
  have HC:=Lib.hid (And.intro hc1 hc2)
  clear hc2
  go_enter Tryz.func231,Tryz.ntmps231
  go_wp2_with (at_builtin;refine Lib.wpList_append_run _ rfl _ _ _ _ rfl _ _ rfl rfl _ _ (HR.out _) ?_)
  go_ret
  refine⟨some ⟨w.heap.size,0,none⟩,cap,[(w.heap.size,3,(Builtin.zeroCells (Value.int .i64 0).cells n++Builtin.zeroCells (Value.int .i64 0).cells (cap - n)).toList)],rfl,⟨by simp,.inr ⟨w.heap.size,_,rfl,rfl,Nat.zero_le _,HC.out.2,?_,by simp⟩⟩,⟨by simp,fun e he=>?_⟩,?_⟩
  ·have:=HC.out.1
   simp[Builtin.zeroCells,Value.cells]
   omega
  ·rw[List.mem_singleton.1 he]
   refine⟨Nat.le_refl _,?_⟩
   dsimp only
   rw[Array.toArray_toList]
   exact zI w.drew _
  ·exact((Below.refl _ w).drew).alloc (by simp) _
theorem zgZ (l:List Int):∀ u∈l.map (Value.int .i64),u.oneCell'=true:=fun u hu=>by
 obtain⟨x,_,rfl⟩:=List.mem_map.1 hu
 rfl
theorem zp.news {w:World}{s:Sl}{l:List Int}(h:zp w s l):0<s.n→∃ ad,s.p=some ad∧∀ j u,(l.map (Value.int .i64))[j]? = some u→w.cell? (ad.add j)=some u:=by
 obtain⟨b,o,hp,hr⟩:=h.at'.ex
 refine fun h0=>⟨⟨b,o,none⟩,hp h0,fun j u hj=>?_⟩
 have hn:=h.n
 have hj' : j<l.length:=by
  have:=(List.getElem?_eq_some_iff.1 hj).1
  simpa using this
 have h1:=(hr j (by omega)).2 0 _ rfl
 rw[List.getElem?_map,List.getElem?_eq_getElem hj']at hj
 have hu:u=.int .i64 (l.getD j 0):=by
  rw[List.getD_eq_getElem?_getD,List.getElem?_eq_getElem hj']
  simpa using hj.symm
 rw[hu,zH]
 simpa using h1
theorem zbQ (bb:Nat) (s t:Sl) (l m:List Int) (w:World) (hh:w.heap[bb]? = some (.cells #[s.v,t.v] 37 (0,0))) (hl:zp w s l) (hm:zp w t m) (hlen:(l.length+m.length)*8≤140737488351232):
  Calls Tryz.prog 194 #[.slice (some ⟨bb,0,none⟩) 2 2] w fun e w'=>∃ p n cap R,e=.returned (.slice p n cap)∧zM 3 1 p n cap ((l++m).map (Value.int .i64)) R∧Own w.heap.size w' R∧Below w.heap.size w w':=by
 have hmx:maxLen=9223372036854775807:=rfl
 have hsn:=hl.n
 have htn:=hm.n
 have HL:=Lib.hid hl
 have HM:=Lib.hid hm
 have R0:=Lib.hid (zg.cell (P:=Tryz.prog) (T:=37) (v:=s.v) (off:=0) Z7 (zL hh) (by simp[World.cell?,hh]))
 have R1:=Lib.hid (zg.cell (P:=Tryz.prog) (T:=37) (v:=t.v) (off:=1) Z7 (zL hh) (by simp[World.cell?,hh]))
 have hg:=fun w'=>zeS (l.length+m.length) (by omega) w'
 rw[show (((l.length+m.length:Nat)):Int)=(l.length:Int)+(m.length:Int) by omega]at hg
 have HG:=Lib.hid hg
 obtain⟨sp,sn,sc⟩:=s
 obtain⟨tp,tn,tc⟩:=t
 dsimp only at hsn htn
 subst hsn
 subst htn
 clear hl hm hh hg
 have HLN:=Lib.hid hlen
 have hp1:¬ ((l.length:Int)<0):=by omega
 have hp2:¬ ((l.length:Int)+(m.length:Int)<0):=by omega
 clear hlen
 have hb1:l.length≤140737488355328:=by have:=HLN.out;omega
 have hb2:m.length≤140737488355328:=by have:=HLN.out;omega
 have HNL:=Lib.hid (fun (w' : World) (hb:Below w.heap.size w w')=>(show 0<l.length→∃ ad,sp=some ad∧∀ j u,(l.map (Value.int .i64))[j]? = some u→w'.cell? (ad.add j)=some u from (HL.out.grow hb).news))
 have HNM:=Lib.hid (fun (w' : World) (hb:Below w.heap.size w w')=>(show 0<m.length→∃ ad,tp=some ad∧∀ j u,(m.map (Value.int .i64))[j]? = some u→w'.cell? (ad.add j)=some u from (HM.out.grow hb).news))
 clear HL HM
 have hL:=Loc.start w
 go_enter Tryz.func194,Tryz.ntmps194
 go_upto_region 10 with(first|(refine zo R0.out hL rfl rfl ?_)|(refine zo R1.out hL rfl rfl ?_)|((with_reducible refine wp_loop_rounds 3 ?_))|(with_reducible refine qr ?_)|(go_at_call 231;refine(HG.out _).mono ?_;rintro e w1 ⟨p1,c1,N1,rfl,hN1,ho1,hb⟩;replace hL:=hL.gainTail hb ho1;simp only[List.nil_append]at hL;clear hb ho1;dsimp only))
 go_upto_region 13 with(first|(refine zo R0.out hL rfl rfl ?_)|(refine zo R1.out hL rfl rfl ?_)|((with_reducible refine wp_loop_rounds 3 ?_))|(with_reducible refine qr ?_))
 go_upto_region 14 with(at_builtin;refine zz (K:=[]) (R:=N1) (q:=sp) (m:=l.length) (c:=sc) (news:=l.map (Value.int .i64)) hN1 hL rfl rfl rfl Qr Z8 (by decide) rfl ?_ ?_ (zgZ l) ?_ ?_ ?_;(case refine_1=>exact HNL.out _ hL.below);(case refine_2=>simp);(case refine_3=>(have:=HLN.out;omega));(case refine_4=>(have:=HLN.out;omega));clear hL hN1;intro p2 c2 N2 w2 hN2 hL;simp only[List.nil_append,Nat.zero_add]at hL hN2 ⊢)
 go_upto_region 13 with(first|(refine zo R0.out hL rfl rfl ?_)|(refine zo R1.out hL rfl rfl ?_)|((with_reducible refine wp_loop_rounds 3 ?_))|(with_reducible refine qr ?_))
 go_upto_region 14 with(at_builtin;refine zz (K:=[]) (R:=N2) (q:=tp) (m:=m.length) (c:=tc) (news:=m.map (Value.int .i64)) hN2 hL rfl rfl rfl Qr Z8 (by decide) rfl ?_ ?_ (zgZ m) ?_ ?_ ?_;(case refine_1=>exact HNM.out _ hL.below);(case refine_2=>simp);(case refine_3=>(have:=HLN.out;omega));(case refine_4=>(have:=HLN.out;omega));clear hL hN2;intro p3 c3 N3 w3 hN3 hL;simp only[List.nil_append]at hL)
 go_wp2_with (first|((with_reducible refine wp_loop_rounds 3 ?_))|(with_reducible refine qr ?_))
 go_ret
 exact⟨p3,l.length+m.length,c3,rfl,N3,hN3,hL.own,hL.below⟩
theorem KJ:∀ {l m:List Int},l.Pairwise (fun a b=>a<b)→m.Pairwise (fun a b=>a<b)→(∀ x,x∈l↔x∈m)→l=m
 | [],[],_,_,_=>rfl
 | [],b::m,_,_,h=>absurd ((h b).2 List.mem_cons_self) (by simp)
 | a::l,[],_,_,h=>absurd ((h a).1 List.mem_cons_self) (by simp)
 | a::l,b::m,hl,hm,h=>by
  rw[List.pairwise_cons]at hl hm
  have hab:a=b:=by
   rcases List.mem_cons.1 ((h a).1 List.mem_cons_self) with e|e
   ·exact e
   ·rcases List.mem_cons.1 ((h b).2 List.mem_cons_self) with e2|e2
    ·exact e2.symm
    ·have:=hl.1 b e2
     have:=hm.1 a e
     omega
  subst hab
  refine congrArg (a::·) (KJ hl.2 hm.2 fun x=>⟨fun hx=>?_,fun hx=>?_⟩)
  ·rcases List.mem_cons.1 ((h x).1 (List.mem_cons_of_mem _ hx)) with e|e
   ·subst e;exact absurd (hl.1 x hx) (by omega)
   ·exact e
  ·rcases List.mem_cons.1 ((h x).2 (List.mem_cons_of_mem _ hx)) with e|e
   ·subst e;exact absurd (hm.1 x hx) (by omega)
   ·exact e
theorem ZI (d:Array Int) (hd:∀ i j,i≤j→j<d.size→d[i]! ≤d[j]!):∀ m,m≤d.size→(Lib.compactUpTo d m).Pairwise (fun a b=>a<b)∧∀ x,x∈Lib.compactUpTo d m↔∃ j,j<m∧d[j]! = x
 | 0,_=>⟨by simp[Lib.compactUpTo],fun x=>by simp[Lib.compactUpTo]⟩
 | m+1,hm=>by
  obtain⟨h1,h2⟩:=ZI d hd m (by omega)
  rw[Lib.compactUpTo_succ]
  by_cases hk:Lib.keeps d m=true
  ·rw[if_pos hk]
   have hk' : m=0∨d[m]! ≠d[m - 1]! :=by simpa [Lib.keeps] using hk
   refine⟨?_,fun x=>?_⟩
   ·rw[List.pairwise_append]
    refine⟨h1,by simp,fun a ha b hb=>?_⟩
    rw[List.mem_singleton.1 hb]
    obtain⟨j,hj,rfl⟩:=(h2 a).1 ha
    have h3:=hd j (m - 1) (by omega) (by omega)
    have h4:=hd (m - 1) m (by omega) (by omega)
    rcases hk' with h|h
    ·omega
    ·have:d[m - 1]! ≠d[m]! :=fun e=>h e.symm
     omega
   ·rw[List.mem_append,List.mem_singleton,h2]
    constructor
    ·rintro(⟨j,hj,h⟩|h)
     ·exact⟨j,by omega,h⟩
     ·exact⟨m,by omega,h.symm⟩
    ·rintro⟨j,hj,h⟩
     rcases Nat.lt_or_ge j m with h5|h5
     ·exact .inl ⟨j,h5,h⟩
     ·obtain rfl:j=m:=by omega
      exact .inr h.symm
  ·rw[if_neg hk,List.append_nil]
   have hk' : m≠0∧d[m]! = d[m - 1]! :=by
    have:¬ (m=0∨d[m]! ≠d[m - 1]!):=by simpa [Lib.keeps] using hk
    exact⟨fun e=>this (.inl e),Classical.not_not.1 fun e=>this (.inr e)⟩
   refine⟨h1,fun x=>?_⟩
   rw[h2]
   constructor
   ·rintro⟨j,hj,h⟩
    exact⟨j,by omega,h⟩
   ·rintro⟨j,hj,h⟩
    rcases Nat.lt_or_ge j m with h5|h5
    ·exact⟨j,h5,h⟩
    ·obtain rfl:j=m:=by omega
     exact⟨j - 1,by omega,by rw[← hk'.2];exact h⟩
theorem zaE {zs:List Int}(h:zs.Pairwise (fun a b=>a≤b)):(Lib.compact zs).Pairwise (fun a b=>a<b)∧∀ x,x∈Lib.compact zs↔x∈zs:=by
 have hg:∀ i,i<zs.length→zs.toArray[i]! = zs.getD i 0:=fun i hi=>by simp[List.getD_eq_getElem?_getD,hi]
 have hd:∀ i j,i≤j→j<zs.toArray.size→zs.toArray[i]! ≤zs.toArray[j]! :=fun i j hij hj=>by
  have hj' : j<zs.length:=by simpa using hj
  rw[hg i (by omega),hg j hj',List.getD_eq_getElem?_getD,List.getD_eq_getElem?_getD,List.getElem?_eq_getElem (by omega),List.getElem?_eq_getElem hj']
  show zs[i]≤zs[j]
  rcases Nat.lt_or_ge i j with h1|h1
  ·exact List.pairwise_iff_getElem.1 h i j (by omega) hj' h1
  ·obtain rfl:i=j:=by omega
   exact Int.le_refl _
 obtain⟨h1,h2⟩:=ZI zs.toArray hd zs.length (by simp)
 refine⟨h1,fun x=>(h2 x).trans ?_⟩
 constructor
 ·rintro⟨j,hj,hx⟩
  rw[hg j hj,List.getD_eq_getElem?_getD,List.getElem?_eq_getElem hj]at hx
  have:zs[j]=x:=hx
  exact this▸List.getElem_mem hj
 ·intro hx
  obtain⟨j,hj,he⟩:=List.mem_iff_getElem.1 hx
  exact⟨j,hj,by rw[hg j hj,List.getD_eq_getElem?_getD,List.getElem?_eq_getElem hj];exact he⟩
def y7 (l m:List Int):List Int:=Lib.compact ((l++m).mergeSort fun x y=>decide (x≤y))
def Yc (l m:List Int):List Int:=((List.range 60).map fun k:Nat=>(k:Int)).filter fun s=>j6 l s || j6 m s
def inS (l:List Int):Prop:=∀ x∈l,0≤x∧x<60
def ZL (l:List Int):Prop:=l.Pairwise (fun a b=>a<b)
theorem QJ (l m:List Int):ZL (y7 l m)∧∀ x,x∈y7 l m↔x∈l∨x∈m:=by
 have hs:((l++m).mergeSort fun x y=>decide (x≤y)).Pairwise (fun a b=>a≤b):=by
  have:=List.pairwise_mergeSort (le:=fun x y:Int=>decide (x≤y)) (fun a b c h1 h2=>by simp only[decide_eq_true_eq]at *;omega) (fun a b=>by simp only[Bool.or_eq_true,decide_eq_true_eq];omega) (l++m)
  exact this.imp (fun h=>by simpa using h)
 obtain⟨h1,h2⟩:=zaE hs
 exact⟨h1,fun x=>by rw[y7,h2,List.mem_mergeSort,List.mem_append]⟩
theorem zdt (l m:List Int):ZL (Yc l m):=by
 unfold Yc ZL
 refine List.Pairwise.filter _ ?_
 rw[List.pairwise_map]
 exact List.pairwise_lt_range.imp (fun h=>by omega)
theorem Yt {l m:List Int}(hl:inS l) (hm:inS m):y7 l m=Yc l m:=by
 obtain⟨h1,h2⟩:=QJ l m
 refine KJ h1 (zdt l m) fun x=>?_
 rw[h2,Yc,List.mem_filter,List.mem_map,Bool.or_eq_true,Zg,Zg]
 constructor
 ·intro h
  have h3:0≤x∧x<60:=h.elim (hl x) (hm x)
  exact⟨⟨x.toNat,List.mem_range.2 (by omega),by omega⟩,h⟩
 ·exact fun h=>h.2
theorem UG {l:List Int}(h:ZL l):y7 l []=l:=
 KJ (QJ l []).1 h fun x=>by rw[(QJ l []).2];simp
def Yd (l:List Int):Bool:=j7 (fun k=>decide (l.getD (k+1) 0≤l.getD k 0)) (l.length - 1)
theorem zcq {l:List Int}(h:Yd l=false):ZL l:=by
 have hs:∀ k,k+1<l.length→l.getD k 0<l.getD (k+1) 0:=fun k hk=>by
  have:¬ j7 (fun k=>decide (l.getD (k+1) 0≤l.getD k 0)) (l.length - 1)=true:=by
   show ¬ Yd l=true
   rw[h];decide
  rw[KH]at this
  have h2:¬ (l.getD (k+1) 0≤l.getD k 0):=fun e=>this ⟨k,by omega,by simpa using e⟩
  omega
 have hm:∀ j i,i<j→j<l.length→l.getD i 0<l.getD j 0:=fun j=>by
  induction j with
  | zero=>intro i hi;omega
  | succ j ih=>
   intro i hi hj
   rcases Nat.lt_or_ge i j with h1|h1
   ·exact Int.lt_trans (ih i h1 (by omega)) (hs j hj)
   ·obtain rfl:i=j:=by omega
    exact hs i hj
 unfold ZL
 rw[List.pairwise_iff_getElem]
 intro i j hi hj hij
 have:=hm j i hij hj
 rwa [List.getD_eq_getElem?_getD,List.getD_eq_getElem?_getD,List.getElem?_eq_getElem hi,List.getElem?_eq_getElem hj]at this
open Go.RowKit Go.Sort
theorem V4 (Bs:Nat) (s:Sl) (zs:List Int) (hreach:zs.length*8≤140737488351232) (w:World) (hBs:Bs<w.heap.size) (hc:w.cell? ⟨Bs,0,none⟩=some s.v) (hI:zp w s zs):
  Calls Tryz.prog 247 #[.slice none 0 0,.func (.func 230) #[] #[.pointer (some ⟨Bs,0,none⟩)]] w fun e W'=>
   ∃ v,e=.returned v∧W'.ownsRow w.heap.size 3 1 v zs.length (zs.map (Value.int .i64))∧Below w.heap.size w W':=
 (callsIn_wide (n:=3)).1 (Gq 3 (Nat.le_refl _) Bs s zs hreach w hBs hc hI)
theorem zbR (p:Option Addr) (len cap:Nat) (w:World):
  Calls Tryz.prog 193 #[.slice p len cap] w fun e w'=>e=.returned (.func (.func 230) #[] #[.pointer (some ⟨w.heap.size,0,none⟩)])∧w'=w.alloc (.cells #[.slice p len cap] 37):=
 (callsIn_wide (n:=1)).1 (zds Fence.wide 1 trivial rfl p len cap w)
theorem zaF (Bs:Nat) (s:Sl) (zs:List Int) (hreach:zs.length*8≤140737488351232) (w:World) (hBs:Bs<w.heap.size) (hc:w.cell? ⟨Bs,0,none⟩=some s.v) (hI:zp w s zs):
  Calls Tryz.prog 228 #[.func (.func 230) #[] #[.pointer (some ⟨Bs,0,none⟩)]] w fun e W'=>
   ∃ v,e=.returned v∧W'.ownsRow w.heap.size 3 1 v zs.length (zs.map (Value.int .i64))∧Below w.heap.size w W':=by
 have HA:=Lib.hid (V4 Bs s zs hreach w hBs hc hI)
 clear hc hI
 go_enter Tryz.func228,Tryz.ntmps228
 go_wp2_with (go_at_call 247;refine HA.out.mono ?_;rintro e w1 ⟨v,rfl,hrow,hb⟩;dsimp only)
 go_ret
 exact⟨v,rfl,hrow,hb⟩
theorem zbS (Bs:Nat) (s:Sl) (zs:List Int) (hreach:zs.length*8≤140737488351232) (w:World) (hBs:Bs<w.heap.size) (hc:w.cell? ⟨Bs,0,none⟩=some s.v) (hI:zp w s zs):
  Calls Tryz.prog 192 #[.func (.func 230) #[] #[.pointer (some ⟨Bs,0,none⟩)]] w fun e W'=>
   ∃ v,e=.returned v∧W'.ownsRow w.heap.size 3 1 v zs.length ((zs.mergeSort fun x y=>decide (x≤y)).map (Value.int .i64))∧Below w.heap.size w W':=by
 have HA:=Lib.hid (zaF Bs s zs hreach w hBs hc hI)
 clear hc hI
 have hlm:(zs.mergeSort fun x y=>decide (x≤y)).length=zs.length:=by simp
 have HLM:=Lib.hid hlm
 clear hlm
 go_enter Tryz.func192,Tryz.ntmps192
 go_wp2_with (go_at_call 228;refine HA.out.mono ?_;rintro e w1 ⟨v,rfl,hrow,hb⟩;dsimp only)
 rcases hrow.2 with⟨rfl,hz⟩|⟨gb,cap,cur,rfl,hbase,hgb,r1,r2,r3,r4⟩
 ·have hss:zs=[]:=List.eq_nil_of_length_eq_zero hz
  subst hss
  go_wp2_with (go_at_call 229;refine(zbO none 0 w1).mono ?_;rintro e w2 ⟨rfl,rfl⟩;dsimp only)
  go_ret
  exact⟨.slice none 0 0,rfl,by simpa using hrow,hb⟩
 ·have hH:Holds (Value.int .i64) w1 gb 0 zs.toArray:=holds_of_blockI hgb (by simpa using r4)
  have hgl:gb<w1.heap.size:=zL hgb
  have HS:=Lib.hid (zgW gb 0 cap zs w1 hH hgl (by omega))
  go_wp2_with (go_at_call 229;refine HS.out.mono ?_;rintro e w2 ⟨rfl,nn,os,rfl⟩;dsimp only)
  go_ret
  exact⟨_,rfl,ownsRow_sortedI (by simp) hbase hgb r1 r2 r3,hb.grown (grownBy_sortedI _) hb.size (fun j hj=>by cases hj;exact hbase)⟩
theorem zaG (base:Nat) (v:Value) (n:Nat) (zs:List Int) (w0 w:World) (h0:base=w0.heap.size) (hn:zs.length=n) (hrow:w.ownsRow base 3 1 v n (zs.map (Value.int .i64))) (hb:Below w0.heap.size w0 w):
  Calls Tryz.prog 191 #[v] w fun e W'=>∃ (s:Sl) (R:List zj),e=.returned s.v∧zM 3 1 s.p s.n s.cap ((Lib.compact zs).map (Value.int .i64)) R∧Own w0.heap.size W' R∧Below w0.heap.size w0 W':=by
 subst h0 hn
 rcases hrow.2 with⟨rfl,hz⟩|⟨gb,cap,cur,rfl,hbase,hgb,r1,r2,r3,r4⟩
 ·have hss:zs=[]:=List.eq_nil_of_length_eq_zero hz
  subst hss
  refine(VP none 0 w).mono ?_
  rintro e W' ⟨rfl,rfl⟩
  exact⟨zn,[],rfl,zM.nil,Own.nil,hb⟩
 ·have hH:Holds (Value.int .i64) w gb 0 zs.toArray:=holds_of_blockI hgb (by simpa using r4)
  have hmx:maxLen=9223372036854775807:=rfl
  refine(zeQ gb 0 cap zs w hH (by omega) r1).mono ?_
  rintro e W' ⟨rfl,q,rfl⟩
  have hle:(Lib.compact zs).length≤zs.length:=by
   unfold Lib.compact Lib.compactUpTo
   rw[List.length_map]
   exact Nat.le_trans (List.length_filter_le _ _) (by simp)
  have hg:=grownBy_sortedI (w:=w) (g:=gb) (n:=q) (os:=#[]) (Lib.compact zs++List.replicate (zs.length - (Lib.compact zs).length) 0).toArray
  have hh:=heap_sortedI (n:=q) (os:=#[]) (Lib.compact zs++List.replicate (zs.length - (Lib.compact zs).length) 0).toArray hgb
  rw[grow_empty]at hg hh
  have ht:=take_putCellsI cur (Lib.compact zs++List.replicate (zs.length - (Lib.compact zs).length) 0) (by simp;omega)
  have hlen:(Lib.compact zs++List.replicate (zs.length - (Lib.compact zs).length) 0).length=zs.length:=by simp;omega
  rw[hlen]at ht
  refine⟨⟨some ⟨gb,0,none⟩,(Lib.compact zs).length,cap⟩,[(gb,3,(putCells (Value.int .i64) 0 (Lib.compact zs++List.replicate (zs.length - (Lib.compact zs).length) 0).toArray cur).toList)],rfl,⟨by simp,.inr ⟨gb,_,rfl,rfl,Nat.le_trans hle r1,r2,?_,?_⟩⟩,⟨by simp,fun e he=>?_⟩,hb.grown hg hb.size (fun j hj=>by cases hj;exact hbase)⟩
  ·simp[putCells,r3]
  ·have h6:=congrArg (fun l=>l.take (Lib.compact zs).length) ht
   simp only[List.take_take,Nat.min_eq_left hle]at h6
   rw[Nat.mul_one,h6,List.map_append,List.take_append_of_le_length (by simp)]
   exact List.take_of_length_le (by simp)
  ·rw[List.mem_singleton.1 he]
   refine⟨hbase,?_⟩
   dsimp only
   rw[Array.toArray_toList]
   exact hh
theorem zgt:jH Tryz.prog 251 37 [.slice none 0 0]:=⟨by kernel_rfl,⟨by kernel_rfl⟩,⟨by kernel_rfl⟩⟩
theorem zbT (s t:Sl) (l m:List Int) (w:World) (hl:zp w s l) (hm:zp w t m) (hlen:(l.length+m.length)*8≤140737488351232):
  Calls Tryz.prog 152 #[s.v,t.v] w fun e w'=>∃ (r:Sl) (R:List zj),e=.returned r.v∧zM 3 1 r.p r.n r.cap ((y7 l m).map (Value.int .i64)) R∧Own w.heap.size w' R∧Below w.heap.size w w':=by
 have HL:=Lib.hid hl
 have HM:=Lib.hid hm
 have HLN:=Lib.hid hlen
 have HLS:=Lib.hid (show (l++m).length*8≤140737488351232 by rw[List.length_append];exact hlen)
 have HMS:=Lib.hid (show ((l++m).mergeSort fun x y=>decide (x≤y)).length=(l++m).length by simp)
 clear hl hm hlen
 have hL:=Loc.start w
 go_enter Tryz.func152,Tryz.ntmps152
 go_wp2_with (first|(with_reducible refine lbs (z:=[.slice none 0 0]) (hT:=zgt) hL ?_;clear hL;intro bb w1 hL)|(go_at_call 194;refine(zbQ bb s t l m _ (hL.heap cIn) (HL.out.grow hL.below) (HM.out.grow hL.below) HLN.out).mono ?_;rintro e w2 ⟨p1,n1,c1,R1,rfl,hr1,ho1,hb1⟩;replace hL:=hL.grow hb1;have I1:=hr1.ints ho1;clear hr1 ho1 hb1;dsimp only)|(go_at_call 193;refine(zbR p1 n1 c1 _).mono ?_;rintro e w3 ⟨rfl,hw3⟩;have hb3:Below w2.heap.size w2 w3:=(by rw[hw3];exact(Below.refl _ _).alloc (Nat.le_refl _) _);have hc3:w3.cell? ⟨w2.heap.size,0,none⟩=some (Sl.v ⟨p1,n1,c1⟩):=(by rw[hw3];exact cell_one_new _ _ _ 0 _ rfl);have hs3:w2.heap.size<w3.heap.size:=(by rw[hw3];simp);replace hL:=hL.grow hb3;replace I1:=I1.grow hb3;clear hb3 hw3;dsimp only)|(go_at_call 192;refine(zbS _ ⟨p1,n1,c1⟩ (l++m) HLS.out _ hs3 hc3 I1).mono ?_;rintro e w4 ⟨v4,rfl,hrow,hb4⟩;clear hs3 hc3 I1;dsimp only)|(go_at_call 191;refine(zaG _ v4 _ _ w3 w4 rfl HMS.out hrow hb4).mono ?_;rintro e w5 ⟨s5,R5,rfl,I5,O5,hb5⟩;replace O5:=O5.mono hL.below.size;replace hL:=hL.grow hb5;clear hrow hb4 hb5;dsimp only))
 go_ret
 exact⟨s5,R5,rfl,I5,O5,hL.below⟩
def SlR (B:Nat) (l:List Int):Value→World→Prop:=fun v w=>∃ (r:Sl) (R:List zj),v=r.v∧zM 3 1 r.p r.n r.cap (l.map (Value.int .i64)) R∧Own B w R
theorem SlR.stable {B:Nat}{l:List Int}:∀ v w w',Below w.heap.size w w'→SlR B l v w→SlR B l v w':=fun _ _ _ hb ⟨r,R,h1,h2,h3⟩=>⟨r,R,h1,h2,h3.grow hb⟩
def GuR (B:Nat) (a:Bool) (s:zq) (b c:Bool) (l:List Int):Value→World→Prop:=fun v w=>∃ (r:Sl) (R:List zj),v=Gu.v ⟨a,s,b,c,r⟩∧zM 3 1 r.p r.n r.cap (l.map (Value.int .i64)) R∧Own B w R
theorem GuR.stable {B:Nat}{a:Bool}{s:zq}{b c:Bool}{l:List Int}:∀ v w w',Below w.heap.size w w'→GuR B a s b c l v w→GuR B a s b c l v w':=fun _ _ _ hb ⟨r,R,h1,h2,h3⟩=>⟨r,R,h1,h2,h3.grow hb⟩
theorem Yu (K:FuncId) (f:zq→zq→zq) (he:∀ args w,(callFunc K args).run Tryz.prog w=.ok (.enter K args) w)
  (hf:∀ (s t:zq) (w:World),Calls Tryz.prog K #[s.v,t.v] w fun e w'=>e=.returned (f s t).v∧Below w.heap.size w w')
  (g h:Gu) (l m:List Int) (w:World) (hl:zp w g.s l) (hm:zp w h.s m) (hlen:(l.length+m.length)*8≤140737488351232):
  Calls Tryz.prog 104 #[g.v,h.v,.func (.func K) #[] #[]] w fun e w'=>∃ r:Sl,e=.returned (Gu.v ⟨g.null || h.null,f g.span h.span,g.tr || h.tr,g.fa || h.fa,r⟩)∧Q7 w.heap.size w' r (y7 l m)∧Below w.heap.size w w':=by
 have HS:=Lib.hid (fun w' (hb:Below w.heap.size w w')=>zbT g.s h.s l m w' (hl.grow hb) (hm.grow hb) hlen)
 have HK:=Lib.hid (fun w'=>hf g.span h.span w')
 clear hl hm hlen hf
 obtain⟨gl,⟨gn,glo,ghi⟩,gt,gf,⟨gp,gk,gc⟩⟩:=g
 obtain⟨hl',⟨hn,hlo,hhi⟩,ht,hf,⟨hp,hk,hc⟩⟩:=h
 dsimp only at HS HK
 generalize hfs:f ⟨gn,glo,ghi⟩ ⟨hn,hlo,hhi⟩=fs at HK ⊢
 obtain⟨fn,flo,fhi⟩:=fs
 clear hfs
 generalize y7 l m=ml at HS ⊢
 have hL:=Loc.start w
 go_enter Tryz.func104,Tryz.ntmps104
 go_step
 go_step
 go_step
 ((with_reducible refine lbx hL ?_);clear hL;intro b3 w1 hL)
 ((with_reducible refine lbx hL ?_);clear hL;intro b4 w1 hL)
 ((with_reducible refine lal hL ?_);clear hL;intro b6 w1 hL)
 go_upto_region 1 with(fail)
 simp only[Act.put,List.setIfInBounds_toArray,List.set_cons_zero,List.set_cons_succ]
 refine zf [7,8,9,10,11,12,13,14,15,16,17,18,19,20,21,22,23,24,25,26,27,28,29,30,31,32,33,34,35,36] ?_
 refine dv0 ?_
 refine dv1 0 ?_
 refine dv1 1 ?_
 refine dg0 2 ?_
 refine dg1 2 3 ?_
 refine dpo 2 4 ?_
 refine dv0 ?_
 refine dv0 ?_
 refine dv1 7 ?_
 refine dv0 ?_
 refine dv1 9 ?_
 apply zb
 ·intro g w hb V;replace hL:=hL.grow hb;have d6:=yv V 6;have d8:=yv V 8;have d10:=yv V 10;clear V;simp only[za,fLa,fLb,sTa,sTb];simp only[d6,d8,d10]
  go_wp2_with ((with_reducible refine(HK.out _).mono ?_);rintro e w3 ⟨rfl,hb3⟩;dsimp only)
  exact⟨rfl,_,rfl,hb3,rfl⟩
 simp only[apN,apC]
 refine dv0 ?_
 refine dv1 12 ?_
 refine dv1 13 ?_
 refine dg0 14 ?_
 refine dg1 14 15 ?_
 refine dpo 14 16 ?_
 refine dv0 ?_
 refine dv1 18 ?_
 refine dv1 19 ?_
 refine dg0 20 ?_
 refine dg1 20 21 ?_
 refine dpo 20 22 ?_
 refine dv0 ?_
 refine dv1 24 ?_
 refine dv0 ?_
 refine dv1 26 ?_
 refine zh (SlR w1.heap.size ml) SlR.stable ?_ ?_
 ·intro g w hb V;replace hL:=hL.grow hb;have d25:=yv V 25;have d27:=yv V 27;clear V;simp only[za,fLa,fLb,sTa,sTb];simp only[d25,d27]
  go_wp2_with (go_at_call 152;(with_reducible refine(HS.out _ hL.below).mono ?_);rintro e w3 ⟨r,R,rfl,hr,ho,hb3⟩;dsimp only)
  exact⟨rfl,_,rfl,hb3,r,R,rfl,hr,ho.mono hb.size⟩
 simp only[apN,apC]
 refine zh (GuR w1.heap.size (or gl hl') ⟨fn,flo,fhi⟩ (or gt ht) (or gf hf) ml) GuR.stable ?_ ?_
 ·intro g w hb V;replace hL:=hL.grow hb;have d5:=yv V 5;have d11:=yv V 11;have d17:=yv V 17;have d23:=yv V 23;have d28:(SlR w1.heap.size ml) (g 35) w:=yr V 28;obtain⟨⟨x28,y28,z28⟩,R28,d28,i28,o28⟩:=d28;clear V;simp only[za,fLa,fLb,sTa,sTb];simp only[d5,d11,d17,d23,d28]
  go_wp2_with (fail)
  exact⟨rfl,_,rfl,Below.refl _ _,⟨x28,y28,z28⟩,R28,rfl,i28,o28⟩
 simp only[apN,apC]
 refine zO hL (by kernel_rfl) (by kernel_rfl) ?_
 intro g w2 hb hR;simp only[List.length_cons,List.length_nil,Nat.reduceAdd]at hR
 have e0:=yv hR 0
 have e1:=yv hR 1
 have e2:=yv hR 2
 have e3:=yv hR 3
 have e4:=yv hR 4
 have e5:=yv hR 5
 have e6:=yv hR 6
 have e7:=yv hR 7
 have e8:=yv hR 8
 have e9:=yv hR 9
 have e10:=yv hR 10
 have e11:=yv hR 11
 have e12:=yv hR 12
 have e13:=yv hR 13
 have e14:=yv hR 14
 have e15:=yv hR 15
 have e16:=yv hR 16
 have e17:=yv hR 17
 have e18:=yv hR 18
 have e19:=yv hR 19
 have e20:=yv hR 20
 have e21:=yv hR 21
 have e22:=yv hR 22
 have e23:=yv hR 23
 have e24:=yv hR 24
 have e25:=yv hR 25
 have e26:=yv hR 26
 have e27:=yv hR 27
 have e28:(SlR w1.heap.size ml) (g 35) w2:=yr hR 28
 obtain⟨⟨x28,y28,z28⟩,R28,e28,i28,o28⟩:=e28
 have e29:(GuR w1.heap.size (or gl hl') ⟨fn,flo,fhi⟩ (or gt ht) (or gf hf) ml) (g 36) w2:=yr hR 29
 obtain⟨⟨x29,y29,z29⟩,R29,e29,i29,o29⟩:=e29
 clear hR;simp only[za,fLa,fLb,sTa,sTb]
 simp only[e0,e1,e2,e3,e4,e5,e6,e7,e8,e9,e10,e11,e12,e13,e14,e15,e16,e17,e18,e19,e20,e21,e22,e23,e24,e25,e26,e27,e28,e29]
 clear e0 e1 e2 e3 e4 e5 e6 e7 e8 e9 e10 e11 e12 e13 e14 e15 e16 e17 e18 e19 e20 e21 e22 e23 e24 e25 e26 e27 e28 e29
 replace hL:=hL.gainTail hb o29
 simp only[List.cons_append,List.nil_append]at hL
 clear hb
 clear i28 o28 o29
 go_wp2_with (first|(with_reducible refine zd hL ?_;clear hL;intro w1 hL))
 refine rt1 ?_
 exact⟨⟨x29,y29,z29⟩,rfl,⟨R29,i29,hL.ownOf (List.sublist_append_right [_,_,_] _)⟩,hL.below⟩
end Go.Proofs.YtplcndmdkabmeaaGreatDoor
