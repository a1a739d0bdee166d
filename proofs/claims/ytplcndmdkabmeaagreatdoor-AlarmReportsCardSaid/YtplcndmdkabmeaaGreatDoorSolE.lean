/- The walk over the solver's iterator: each edge of each instruction, as the pictures are when it is come to. Conditions: right pictures, one for each place. | The solver's data while it solves: its pictures in a call's own memory; one edge taken in. Conditions: as in each theorem. | How high pictures are: each edge that changes one makes it higher, so solving ends. Plain. Conditions: right pictures of a right program. -/
import Derived.Test.YtplcndmdkabmeaaGreatDoorRangeW
import Derived.Test.YtplcndmdkabmeaaGreatDoorPicc
import Derived.Test.YtplcndmdkabmeaaGreatDoorStpc
import Derived.Test.YtplcndmdkabmeaaGreatDoorStepOk
import Derived.RangeFuncNested
import Derived.RangeFuncBound
import Derived.RangeFuncCalls
import Derived.RangeFuncLeaves
import Derived.RangeFuncBox
import Derived.Shelf.Abstract
import Derived.Shelf.RegionOpen
import Derived.WalkKit
import Derived.OwnWalkIn
import Derived.TacticsInMore
import Derived.LoopNIn
import Derived.LoopIn
set_option linter.unusedSimpArgs false
set_option linter.unusedVariables false
set_option maxRecDepth 100000
set_option maxHeartbeats 4000000
namespace Go.Proofs.YtplcndmdkabmeaaGreatDoor
open Go.RowKit
open Go.RowKit Go.Shelf
attribute [local go_sem] Oper.semAt_some
theorem zN.cells {w w' : World}{x:Pv}{d:Pd}(h:zN w x d) (hw:∀ b,yY w b→w'.heap[b]? = w.heap[b]?):zN w' x d:=
 ⟨h.e,h.vars.on (X:=fun _=>True) (fun _ hx=>absurd trivial hx) (fun b _ hc=>hw b hc),h.fields.on (X:=fun _=>True) (fun _ hx=>absurd trivial hx) (fun b _ hc=>hw b hc),h.m⟩
def zaQ (B:Nat) (w:World) (S:zw):Prop:=∃ X:Nat→Prop,(∀ b,X b→B≤b∧b<w.heap.size)∧On w X S
theorem zaQ.at' {B:Nat}{w:World}{S:zw}(h:zaQ B w S):S w:=by
 obtain⟨X,_,hO⟩:=h;exact hO w (fun _ _=>rfl)
theorem zaQ.keep {B:Nat}{w w' : World}{S:zw}(h:zaQ B w S) (hk:Ji B w w'):zaQ B w' S:=by
 obtain⟨X,hX,hO⟩:=h
 exact⟨X,fun b hx=>⟨(hX b hx).1,Nat.lt_of_lt_of_le (hX b hx).2 hk.size⟩,fun w2 h2=>hO w2 (fun b hx=>(h2 b hx).trans (hk.same b (hX b hx).1 (hX b hx).2))⟩
theorem Loc.newE {w w' : World}{S:zw}{L:List zj}{D:List zw}(h:Loc w w' L (S::D)) {B:Nat}(hB:B≤w.heap.size):zaQ B w' S:=by
 obtain⟨X,hX,hO⟩:=h.data S List.mem_cons_self
 exact⟨X,fun b hx=>⟨Nat.le_trans hB (hX b hx).1.2,(hX b hx).1.1⟩,hO⟩
structure UN (p:Pg) (is:Nat→Ins) (bs:Nat) (s:Sl) (l:List Pd) (W:World):Prop where
 h:W.heap[bs]? = some (.cells #[.int .i64 p.vars,.int .i64 p.fields,.slice p.pc p.n p.cap,.slice s.p s.n s.cap] 144 (0,0))
 c:qc W p is
 n:s.n=p.n+1
 len:l.length=p.n+1
 x:∃ xs:Nat→Pv,je W 3 s.p s.n (fun k=>(xs k).cells)∧∀ k,k<s.n→zN W (xs k) (l.getD k zQ)
 r:∀ k,k≤p.n→qd p is (l.getD k zQ)=0
structure EdX where
 i:Nat
 e:EdV
 d:Int × Pd
abbrev EdX.encs (x:EdX):Array Value:=#[.int .i64 x.i,.agg #[.int .i64 x.e.go,.bool x.e.x.none,.slice x.e.x.vars.p x.e.x.vars.n x.e.x.vars.cap,.slice x.e.x.fields.p x.e.x.fields.n x.e.x.fields.cap]]
structure zaR (p:Pg) (is:Nat→Ins) (x:EdX) (W:World):Prop where
 i:x.i<p.n
 of:∃ d:Pd,qd p is d=0∧x.d∈(Qg is x.i d).es
 go:x.e.go=x.d.1
 x:zN W x.e.x x.d.2
theorem zaR.abides {p:Pg}{is:Nat→Ins}{x:EdX}{B:Nat}:KN B (zaR p is x):=
 ⟨fun _ _ hb h=>⟨h.i,h.of,h.go,h.x.grow hb⟩,fun W r r' hr h=>⟨h.i,h.of,h.go,h.x.cells (fun b ⟨cs,T,f,hc⟩=>World.putObj_heap_other (fun e=>by subst e;rw[hr]at hc;cases hc))⟩⟩
def zdC {σ:Type}(p:Pg) (is:Nat→Ins) (pics:σ→List Pd) (s:σ) (x:EdX) (W:World):Prop:=zaR p is x W∧((∀ a b,pics a=pics b)→x.d∈(Qg is x.i ((pics s).getD x.i zQ)).es)
theorem zdC.abides {σ:Type}{p:Pg}{is:Nat→Ins}{pics:σ→List Pd}{s:σ}{x:EdX}{B:Nat}:KN B (zdC p is pics s x):=
 ⟨fun W W' hb h=>⟨(zaR.abides (B:=B)).grow W W' hb h.1,h.2⟩,fun W r r' hr h=>⟨(zaR.abides (B:=B)).turn W r r' hr h.1,h.2⟩⟩
section
variable {σ : Type} (is : Nat → Ins) (nx : Nat → Int × Pd → σ → σ) (pics : σ → List Pd)
def Uz (i:Nat) (s:σ):List (Int × Pd):=(Qg is i ((pics s).getD i zQ)).es
def UO (i:Nat) (s:σ):σ:=(Uz is pics i s).foldl (fun s d=>nx i d s) s
def qm (k:Nat) (s:σ):σ:=(List.range k).foldl (fun s i=>UO is nx pics i s) s
theorem JX (k:Nat) (s:σ):qm is nx pics (k+1) s=UO is nx pics k (qm is nx pics k s):=by
 unfold qm
 rw[List.range_succ,List.foldl_append]
 rfl
end
theorem UP {α β:Type}(f:β→α→β) (l:List α) (d:α) (k:Nat) (hk:k<l.length) (s:β):(l.take (k+1)).foldl f s=f ((l.take k).foldl f s) (l.getD k d):=by
 rw[QC l k d hk,List.foldl_append]
 rfl
def Uv (wq:World) (o:Y0):Value→World→Prop:=fun v w=>∃ s:Sl,v=.tuple #[.slice s.p s.n s.cap,.bool o.wr,.bool o.fl]∧Ua wq w s o.es
theorem Uv.stable {wq:World}{o:Y0}:jC (Uv wq o):=by
 rintro v w w' hb ⟨r,h1,h2⟩;exact⟨r,h1,h2.grow hb⟩
def XO (wq:World) (es:List (Int × Pd)):Value→World→Prop:=fun v w=>∃ s:Sl,v=.slice s.p s.n s.cap∧Ua wq w s es
theorem XO.stable {wq:World}{es:List (Int × Pd)}:jC (XO wq es):=by
 rintro v w w' hb ⟨r,h1,h2⟩;exact⟨r,h1,h2.grow hb⟩
theorem UN.reads {p:Pg}{is:Nat→Ins}{bs:Nat}{s:Sl}{l:List Pd}{W:World}(h:UN p is bs s l W):zg Tryz.prog 27 W bs 0 p.v∧zg Tryz.prog 25 W bs 2 (.slice p.pc p.n p.cap)∧zg Tryz.prog 58 W bs 3 (.slice s.p s.n s.cap):=by
 have hc:∀ j v,[Value.int .i64 p.vars,.int .i64 p.fields,.slice p.pc p.n p.cap,.slice s.p s.n s.cap][j]? = some v→W.cell? ⟨bs,j,none⟩=some v:=fun j v hj=>by
  have e:W.cell? ⟨bs,j,none⟩=[Value.int .i64 p.vars,.int .i64 p.fields,.slice p.pc p.n p.cap,.slice s.p s.n s.cap][j]? :=by simp[World.cell?,h.h]
  rw[e];exact hj
 refine⟨zg.agg (l:=[.int .i64 p.vars,.int .i64 p.fields,.slice p.pc p.n p.cap]) VH (zL h.h) (fun j v hj=>?_) rfl,zg.cell JW (zL h.h) (hc 2 _ rfl),zg.cell XK (zL h.h) (hc 3 _ rfl)⟩
 rw[Nat.zero_add]
 refine hc j v ?_
 have hj3:j<3:=(List.getElem?_eq_some_iff.1 hj).1
 obtain rfl|rfl|rfl:j=0∨j=1∨j=2:=by omega
 all_goals exact hj
theorem zdD {σ:Type}(p:Pg) (is:Nat→Ins) (hp:zl p is=0) (bs:Nat) (s0:Sl) (nx:Nat→Int × Pd→σ→σ) (pics:σ→List Pd) (n B:Nat):
  zb4 Tryz.prog n 99 #[.pointer (some ⟨bs,0,none⟩)] #[] EdX.encs (fun s=>UN p is bs s0 (pics s)) (zdC p is pics) (fun s x=>nx x.i x.d s) (qm is nx pics p.n) B:=by
 intro l J Jx s W hN hg hY hB h0
 refine callsIn_of_wp Tryz.func99 rfl trivial ?_ rfl
 simp only[Tryz.ntmps99,List.size_toArray,List.length_cons,List.length_nil,Nat.reduceAdd,Nat.reduceSub,Array.replicate_succ,Array.replicate_zero,List.push_toArray,List.append_toArray,List.nil_append,List.cons_append]
 have hs:=(zx hp).1.n1
 obtain⟨hr1,hr2,hr3⟩:=(hN s W h0).reads
 have hL:=Loc.start W
 have HR2:=Lib.hid hr2
 clear hr1 hr2 hr3
 refine wpIn_seq_k (fun K hK=>?_)
 refine jJ ?hd ?hq ?hw
 case hd=>decide
 case hq=>rintro⟨_,_,⟨v,hv⟩,_⟩;cases hv
 go_wp2_with (first|(with_reducible refine ldB HR2.out hL ?_))
 gi_wp2
 gi_loopw [16] (fun c wz=>∃ i:Nat,c=.int .i64 i∧i≤p.n∧W.heap.size≤wz.heap.size∧J (qm is nx pics i s) wz) (fun c _=>p.n+1 - (intOf c).toNat)
 case atStart=>exact⟨0,rfl,Nat.zero_le _,Nat.le_refl _,h0⟩
 case round=>
  obtain⟨i,rfl,hi,hWz,hJz⟩:=hrel
  clear hL HR2
  obtain⟨hr1,hr2,hr3⟩:=(hN _ wr hJz).reads
  clear hr2
  by_cases hlt:i<p.n
  ·have hc:decide ((i:Int)<(p.n:Int))=true:=decide_eq_true (by omega)
   have hS:=hN _ wr hJz
   obtain⟨xs,hxl,hxd⟩:=hS.x
   obtain⟨bx,ox,hpp,hcc⟩:=hxl.ex
   have hin:i<s0.n:=by rw[hS.n];omega
   have hr5:=zg.agg (P:=Tryz.prog) ZK (hcc i hin).1 (hcc i hin).2 rfl
   rw[hpp (Nat.lt_of_le_of_lt (Nat.zero_le _) hin)]at hr3
   have hrt:=hS.r i hi
   have hrw:=fun w' (hb:Below wr.heap.size wr w')=>zb2 p is (xs i) ((pics (qm is nx pics i s)).getD i zQ) i w' hp (hS.c.grow hb) ((hxd i hin).grow hb) hrt hlt
   have hbp:i<9223372036854775807:=by omega
   have hns:((i:Int)<(s0.n:Int)):=by omega
   have hnx:=JX is nx pics i s
   unfold UO Uz at hnx
   generalize hdd:(pics (qm is nx pics i s)).getD i zQ=d at hrw hrt hnx
   generalize hoo:Qg is i d=o at hrw hnx
   have HDD:=Lib.hid hdd
   clear hdd hxl hpp hcc hxd hS
   generalize xs i=x at hr5 hrw
   obtain⟨xn,⟨xp,xvn,xc⟩,⟨xfp,xfn,xfc⟩⟩:=x
   try dsimp only[Pv.v,Pv.cells]at hr5 hrw
   have HR1:=Lib.hid hr1
   have HR3:=Lib.hid hr3
   have HR5:=Lib.hid hr5
   have HRW:=Lib.hid hrw
   have HNX:=Lib.hid hnx
   have HO:=Lib.hid hoo
   have HRT:=Lib.hid hrt
   clear hr1 hr3 hr5 hrw hnx hoo hrt
   obtain⟨wq,hwq⟩:∃ x,x=wr:=⟨_,rfl⟩
   subst hwq
   have hL:=Loc.start wq
   gi_wp2
   refine zb3 ?hd3 ?hq3 ?hw3
   case hd3=>decide
   case hq3=>rintro⟨_,_,⟨v,hv⟩,_⟩;cases hv
   refine yq [20,21,22,23,24,25,26,27,28,29,30,31,32,19,33,34,35,5,6,7] ?_
   refine dv0 ?_
   refine dv1 0 ?_
   refine dv1 1 ?_
   apply zb
   ·intro g w hb y;replace hL:=hL.grow hb;have d2:=yv y 2;clear y;simp only[za,fLa,fLb,sTa,sTb];simp only[d2]
    refine zo HR1.out hL rfl rfl ?_
    exact cY
   simp only[apN,apC]
   refine dv0 ?_
   refine dv0 ?_
   refine dv1 5 ?_
   refine dv1 6 ?_
   apply zb
   ·intro g w hb y;replace hL:=hL.grow hb;have d7:=yv y 7;clear y;simp only[za,fLa,fLb,sTa,sTb];simp only[d7]
    refine zo HR3.out hL rfl rfl ?_
    exact cY
   simp only[apN,apC]
   refine dv0 ?_
   refine dv2 8 9 ?_
   apply zb
   ·intro g w hb y;replace hL:=hL.grow hb;have d10:=yv y 10;clear y;simp only[za,fLa,fLb,sTa,sTb];simp only[d10]
    refine zo HR5.out hL rfl rfl ?_
    exact cY
   simp only[apN,apC]
   refine zh (Uv wq o) Uv.stable ?_ ?_
   ·intro g w hb y;replace hL:=hL.grow hb;have d3:=yv y 3;have d4:=yv y 4;have d11:=yv y 11;clear y;simp only[za,fLa,fLb,sTa,sTb];simp only[d3,d4,d11]
    go_wp2_with (go_at_call 62;refine(HRW.out _ hL.below).mono ?_;rintro e w3 ⟨s1,rfl,hG⟩;dsimp only)
    exact⟨rfl,_,rfl,hG.below,s1,rfl,Loc.since hb hG⟩
   simp only[apN,apC]
   refine zh (Uv wq o) Uv.stable ?_ ?_
   ·intro g w hb y;replace hL:=hL.grow hb;have d12:(Uv wq o) (g 32) w:=yr y 12;obtain⟨s1,d12,hG⟩:=d12;clear y;simp only[za,fLa,fLb,sTa,sTb];simp only[d12]
    go_wp2_with (fail)
    exact⟨rfl,_,rfl,Below.refl _ _,s1,rfl,hG⟩
   simp only[apN,apC]
   refine zh (XO wq o.es) XO.stable ?_ ?_
   ·intro g w hb y;replace hL:=hL.grow hb;have d13:(Uv wq o) (g 19) w:=yr y 13;obtain⟨s1,d13,hG⟩:=d13;clear y;simp only[za,fLa,fLb,sTa,sTb];simp only[d13]
    go_wp2_with (fail)
    exact⟨rfl,_,rfl,Below.refl _ _,s1,rfl,hG⟩
   simp only[apN,apC]
   apply zb
   ·intro g w hb y;replace hL:=hL.grow hb;have d13:(Uv wq o) (g 19) w:=yr y 13;obtain⟨s1,d13,hG⟩:=d13;clear y;simp only[za,fLa,fLb,sTa,sTb];simp only[d13]
    go_wp2
    exact cY
   simp only[apN,apC]
   apply zb
   ·intro g w hb y;replace hL:=hL.grow hb;have d13:(Uv wq o) (g 19) w:=yr y 13;obtain⟨s1,d13,hG⟩:=d13;clear y;simp only[za,fLa,fLb,sTa,sTb];simp only[d13]
    go_wp2
    exact cY
   simp only[apN,apC]
   refine zh (XO wq o.es) XO.stable ?_ ?_
   ·intro g w hb y;replace hL:=hL.grow hb;have d14:(XO wq o.es) (g 33) w:=yr y 14;obtain⟨s1,d14,hG⟩:=d14;clear y;simp only[za,fLa,fLb,sTa,sTb];simp only[d14]
    go_wp2_with (fail)
    exact⟨rfl,_,rfl,Below.refl _ _,s1,rfl,hG⟩
   simp only[apN,apC]
   refine dv1 15 ?_
   refine dv1 16 ?_
   refine Qw hL (by kernel_rfl) (by kernel_rfl) ?_
   intro g w2 hb hR;simp only[List.length_cons,List.length_nil,Nat.reduceAdd]at hR
   have e0:=yv hR 0
   have e1:=yv hR 1
   have e2:=yv hR 2
   have e3:=yv hR 3
   have e4:=yv hR 4
   have e5:=yv hR 5
   have e6:=yv hR 6
   have e7:=yv hR 7
   have e8:=yv hR 8
   have e9:=yv hR 9
   have e10:=yv hR 10
   have e11:=yv hR 11
   have e12:(Uv wq o) (g 32) w2:=yr hR 12
   obtain⟨sz12,e12,-⟩:=e12
   have e13:(Uv wq o) (g 19) w2:=yr hR 13
   obtain⟨sz13,e13,-⟩:=e13
   have e14:(XO wq o.es) (g 33) w2:=yr hR 14
   obtain⟨sz14,e14,-⟩:=e14
   have e15:=yv hR 15
   have e16:=yv hR 16
   have e17:(XO wq o.es) (g 5) w2:=yr hR 17
   obtain⟨⟨sp,sn,sc⟩,e17,hGE⟩:=e17;have hb0:=hb
   have e18:=yv hR 18
   have e19:=yv hR 19
   clear hR;simp only[za,fLa,fLb,sTa,sTb]
   simp only[e0,e1,e2,e3,e4,e5,e6,e7,e8,e9,e10,e11,e12,e13,e14,e15,e16,e17,e18,e19]
   clear e0 e1 e2 e3 e4 e5 e6 e7 e8 e9 e10 e11 e12 e13 e14 e15 e16 e17 e18 e19
   replace hL:=hL.grow hb
   clear hb
   clear hL HRW HR1 HR3 HR5
   have hL:=hGE
   clear hGE
   have hJ2:=hg _ wq w2 hb0 hJz
   have hw2:W.heap.size≤w2.heap.size:=Nat.le_trans hWz hb0.size
   have hNE:=hL.newE (Nat.le_trans hB hWz)
   have hsm:=hNE.at'.m
   clear hJz hWz hb0
   go_wp2
   gi_wp2
   gi_loopw [38] (fun c wz=>∃ k:Nat,c=.int .i64 k∧k≤o.es.length∧W.heap.size≤wz.heap.size∧J ((o.es.take k).foldl (fun s d=>nx i d s) (qm is nx pics i s)) wz∧zaQ B wz (fun w=>y9 w ⟨sp,sn,sc⟩ o.es)) (fun c _=>o.es.length+1 - (intOf c).toNat)
   case atStart=>exact⟨0,rfl,Nat.zero_le _,hw2,hJ2,hNE⟩
   case round=>
    obtain⟨k,rfl,hk,hWz,hJz,hNz⟩:=hrel
    clear hL hJ2 hw2 hNE
    have hen:=hNz.at'.n
    dsimp only at hen hsm
    by_cases hlk:k<o.es.length
    ·have hck:decide ((k:Int)<(sn:Int))=true:=decide_eq_true (by omega)
     have hks:k<sn:=by omega
     have hkb:k<9223372036854775807:=by have hmx:maxLen=9223372036854775807:=rfl;omega
     have hle2:k+1≤o.es.length:=hlk
     obtain⟨-,-,evs,hed,hel⟩:=hNz.at'
     obtain⟨be,oe,hpp,hcc⟩:=hel.ex
     dsimp only at hpp
     obtain rfl:=hpp (by omega)
     clear hpp
     have hr6:=zg.agg (P:=Tryz.prog) XL (hcc k hks).1 (hcc k hks).2 rfl
     obtain⟨hgo,hpic⟩:=hed.at' k hlk
     have hmem:o.es.getD k (0,QU)∈o.es:=by
      rw[List.getD_eq_getElem?_getD,List.getElem?_eq_getElem hlk]
      exact List.getElem_mem hlk
     have hnk:=UP (fun s d=>nx i d s) o.es (0,QU) k hlk (qm is nx pics i s)
     generalize o.es.getD k (0,QU)=dk at hgo hpic hmem hnk
     generalize evs.getD k JN=ek at hr6 hgo hpic
     clear hed hel hcc
     obtain⟨ego,en,⟨ep,evn,ec⟩,⟨efp,efn,efc⟩⟩:=ek
     dsimp only[EdV.cells]at hr6 hgo hpic
     have HR6:=Lib.hid hr6
     have HPC:=Lib.hid hpic
     have HMEM:=Lib.hid hmem
     have HNK:=Lib.hid hnk
     have HGO:=Lib.hid hgo
     clear hr6 hpic hmem hnk hgo hen
     have hL:=Loc.start wr
     iterate 2 gi_step
     refine jJ ?hd5 ?hq5 ?hw5
     case hd5=>decide
     case hq5=>rintro⟨_,_,⟨v,hv⟩,_⟩;cases hv
     go_wp2
     iterate 8 gi_step
     refine jJ ?hd6 ?hq6 ?hw6
     case hd6=>decide
     case hq6=>rintro⟨_,_,⟨v,hv⟩,_⟩;cases hv
     go_wp2_with (first|(with_reducible refine ldB HR6.out hL ?_)|(with_reducible first|(refine lal hL ?_;clear hL;intro bl w1 hL)|(refine zd hL ?_;clear hL;intro w1 hL)))
     have hh:=hL.heap cIn
     have hc0:w1.cell? ⟨bl,0,none⟩=some (.int .i64 ego):=by simp[World.cell?,hh]
     have hc1:w1.cell? ⟨bl,1,none⟩=some (.bool en):=by simp[World.cell?,hh]
     have hc2:w1.cell? ⟨bl,2,none⟩=some (.slice ep evn ec):=by simp[World.cell?,hh]
     have hc3:w1.cell? ⟨bl,3,none⟩=some (.slice efp efn efc):=by simp[World.cell?,hh]
     have hJ1:=hg _ wr w1 hL.below hJz
     have hN1:=hNz.keep (Ji.of (B:=B) hL.below)
     have hw1:W.heap.size≤w1.heap.size:=Nat.le_trans hWz hL.below.size
     have hy0:=hY _ ⟨i,⟨ego,⟨en,⟨ep,evn,ec⟩,⟨efp,efn,efc⟩⟩⟩,dk⟩ w1 hJ1 ⟨⟨hlt,⟨d,HRT.out,by rw[HO.out];exact HMEM.out⟩,HGO.out,HPC.out.grow hL.below⟩,fun hcn=>by rw[hcn _ (qm is nx pics i s),HDD.out,HO.out];exact HMEM.out⟩
     dsimp only[EdX.encs]at hy0
     obtain⟨fn,tmps,assign,body,hy,hR⟩:=hy0
     clear hh hL HR6 HPC HMEM HGO hJz hNz hWz hJ1
     gi_wp2
     refine⟨fun h=>(by cases h),hR.mono ?_⟩
     rintro e W3 (⟨rfl,hJ3,hk3⟩|⟨rfl,hJx3⟩)
     ·rw[← HNK.out]at hJ3
      gi_wp2
      go_roundw
      case rel=>exact⟨k+1,by go_num,hlk,Nat.le_trans hw1 hk3.size,hJ3,hN1.keep hk3⟩
      case measure=>simp[intOf];omega
     ·gi_wp2
      refine bodyPost_ret (results_none rfl _ _ _) rfl ?_
      exact⟨⟨_,rfl⟩,.inr hJx3⟩
    ·have hck:decide ((k:Int)<(sn:Int))=false:=decide_eq_false (by omega)
     have hke:k=o.es.length:=by omega
     rw[hke,List.take_length,← HNX.out]at hJz
     obtain rfl:sn=k:=by omega
     clear hen hke hk
     gi_wp2
     go_roundw
     case rel=>exact⟨i+1,by go_num,by omega,hWz,hJz⟩
     case measure=>simp[intOf];omega
  ·have hc:decide ((i:Int)<(p.n:Int))=false:=decide_eq_false (by omega)
   obtain rfl:i=p.n:=by omega
   clear hr1 hr3
   gi_wp2
   go_end0
   exact⟨⟨_,rfl⟩,.inl hJz⟩
theorem ZE (x:Pv):x.cells.length=3:=rfl
def qU:Pv:=⟨false,zn,zn⟩
def y8 (xs:List Pv) (l:List Pd):zw:=fun w=>∀ k,k<l.length→zN w (xs.getD k qU) (l.getD k zQ)
theorem y8.on {xs:List Pv}{l:List Pd}{w w' : World}{X:Nat→Prop}(h:On w X (y8 xs l)) (hw:∀ b,X b→yY w b→w'.heap[b]? = w.heap[b]?):y8 xs l w':=
 fun k hk=>zN.on (X:=X) (fun w2 h2=>h w2 h2 k hk) hw
theorem y8.set {xs:List Pv}{l:List Pd}{w:World}(h:y8 xs l w) (hl:xs.length=l.length) {t:Nat}{r:Pv}{d:Pd}(hr:zN w r d):y8 (xs.set t r) (l.set t d) w:=by
 intro k hk
 rw[List.length_set]at hk
 by_cases h1:k=t
 ·subst h1
  rw[qy _ _ _ _ _ (by omega),if_pos rfl,qy _ _ _ _ _ hk,if_pos rfl]
  exact hr
 ·by_cases ht:t<l.length
  ·rw[qy _ _ _ _ _ (by omega),if_neg h1,qy _ _ _ _ _ ht,if_neg h1]
   exact h k hk
  ·rw[List.set_eq_of_length_le (by omega),List.set_eq_of_length_le (by omega)]
   exact h k hk
theorem Loc.turnL {w0 w:World}{L:List zj}{xs:List Pv}{l:List Pd}(h:Loc w0 w L [y8 xs l]) {r:Nat}(hr:w0.heap.size≤r) {o' : Obj}(ho:¬ yY w r):Loc w0 (w.putObj r o') L [y8 xs l]:=by
 have hoth:∀ b,b≠r→(w.putObj r o').heap[b]? = w.heap[b]? :=fun b hb=>World.putObj_heap_other hb
 have hsz:(w.putObj r o').heap.size=w.heap.size:=by simp[World.putObj]
 refine⟨⟨h.below.os,h.below.tape,h.below.output,by rw[hsz];exact h.below.size,fun k hk=>(hoth k (by omega)).trans (h.below.block k hk)⟩,h.nodup,h.ids,fun e he=>?_,fun S hS=>?_⟩
 ·have h1:=h.cells e he
  rw[hoth _ (fun e2=>by rw[e2]at h1;exact ho ⟨_,_,_,h1⟩)]
  exact h1
 ·rw[List.mem_singleton]at hS
  subst hS
  obtain⟨X,hX,hO⟩:=h.data _ List.mem_cons_self
  refine⟨fun b=>X b∧yY w b,fun b hb=>⟨⟨by rw[hsz];exact(hX b hb.1).1.1,(hX b hb.1).1.2⟩,(hX b hb.1).2⟩,fun w' hw'=>?_⟩
  refine y8.on hO (fun b hx hc=>?_)
  rw[hw' b ⟨hx,hc⟩,hoth b (fun e2=>by subst e2;exact ho hc)]
def JD (w0:World) (p:Pg) (bs:Nat) (s0:Sl) (A:List zj) (l:List Pd) (w:World):Prop:=
 ∃ (xs:List Pv) (R:List zj),xs.length=l.length∧zM 54 3 s0.p s0.n s0.cap (xs.flatMap Pv.cells) R∧Loc w0 w ((bs,144,[.int .i64 p.vars,.int .i64 p.fields,.slice p.pc p.n p.cap,.slice s0.p s0.n s0.cap])::(R++A)) [y8 xs l]
structure qI (p:Pg) (is:Nat→Ins) (l:List Pd):Prop where
 len:l.length=p.n+1
 r:∀ k,k≤p.n→qd p is (l.getD k zQ)=0
theorem JD.at' {w0 w:World}{p:Pg}{is:Nat→Ins}{bs:Nat}{s0:Sl}{A:List zj}{l:List Pd}(h:JD w0 p bs s0 A l w) (hc:qc w0 p is) (ho:qI p is l):UN p is bs s0 l w:=by
 obtain⟨xs,R,hl,hR,hL⟩:=h
 have hn:=hR.flatlen ZE (by decide)
 have ho2:Own w0.heap.size w R:=⟨by
  have h1:=hL.nodup
  rw[List.map_cons,List.map_append]at h1
  exact(List.nodup_append.1 (List.nodup_cons.1 h1).2).1,fun e he=>⟨hL.ids e (List.mem_cons_of_mem _ (List.mem_append_left _ he)),hL.cells e (List.mem_cons_of_mem _ (List.mem_append_left _ he))⟩⟩
 obtain⟨_,h2⟩:=hR.listC ZE qU (by decide) ho2
 have hp:=hL.get (S:=y8 xs l) List.mem_cons_self
 exact⟨hL.cells _ List.mem_cons_self,hc.grow hL.below,by rw[hn,hl,ho.len],ho.len,⟨fun k=>xs.getD k qU,h2,fun k hk=>hp k (by omega)⟩,ho.r⟩
theorem JD.grow {w0 w w' : World}{p:Pg}{bs:Nat}{s0:Sl}{A:List zj}{l:List Pd}(h:JD w0 p bs s0 A l w) (hb:Below w.heap.size w w'):JD w0 p bs s0 A l w':=by
 obtain⟨xs,R,hl,hR,hL⟩:=h
 exact⟨xs,R,hl,hR,hL.grow hb⟩
theorem JD.turn {w0 w:World}{p:Pg}{bs:Nat}{s0:Sl}{A:List zj}{l:List Pd}(h:JD w0 p bs s0 A l w) {r:Nat}(hr:w0.heap.size≤r) {o' : Obj}(ho:¬ yY w r):JD w0 p bs s0 A l (w.putObj r o'):=by
 obtain⟨xs,R,hl,hR,hL⟩:=h
 exact⟨xs,R,hl,hR,hL.turnL hr ho⟩
def jf (nb:Bool) (i:Nat) (x:Int × Pd) (s:List Pd × Bool):List Pd × Bool:=
 if jv x.2 (s.1.getD x.1.toNat zQ)=true then s
 else (s.1.set x.1.toNat (yl (if (nb&&decide (x.1≤i))=true then jA else both) (s.1.getD x.1.toNat zQ) x.2),true)
theorem qI.next {p:Pg}{is:Nat→Ins}(hp:zl p is=0) {nb:Bool}{i:Nat}{x:Int × Pd}{s:List Pd × Bool}(h:qI p is s.1) (h1:qd p is x.2=0) (h2:0≤x.1∧x.1≤p.n):qI p is (jf nb i x s).1:=by
 unfold jf
 by_cases hi:jv x.2 (s.1.getD x.1.toNat zQ)=true
 ·rw[if_pos hi];exact h
 ·rw[if_neg hi]
  refine⟨by simp only[List.length_set];exact h.len,fun k hk=>?_⟩
  dsimp only
  rw[qy _ _ _ _ _ (by have:=h.len;omega)]
  by_cases hkt:k=x.1.toNat
  ·rw[if_pos hkt]
   subst hkt
   refine VU ?_ hp (h.r _ hk) h1
   split
   ·exact VS
   ·exact Jg
  ·rw[if_neg hkt]
   exact h.r k hk
def JE (f:Nat→Nat):Nat→Nat
 | 0=>0
 | n+1=>JE f n+f n
theorem Yi {f g:Nat→Nat}:∀ {n:Nat},(∀ k,k<n→f k≤g k)→JE f n≤JE g n
 | 0,_=>Nat.le_refl _
 | n+1,h=>Nat.add_le_add (Yi fun k hk=>h k (by omega)) (h n (by omega))
theorem UA {f g:Nat→Nat}{j:Nat}(hs:f j<g j):∀ {n:Nat},(∀ k,k<n→f k≤g k)→j<n→JE f n<JE g n
 | 0,_,hj=>absurd hj (Nat.not_lt_zero j)
 | n+1,h,hj=>by
  show JE f n+f n<JE g n+g n
  have h1:=h n (by omega)
  by_cases e:j=n
  ·subst e
   have h2:=Yi (f:=f) (g:=g) (n:=j) fun k hk=>h k (by omega)
   omega
  ·have h2:=UA hs (n:=n) (fun k hk=>h k (by omega)) (by omega)
   omega
theorem Ka {f:Nat→Nat}{m:Nat}:∀ {n:Nat},(∀ k,k<n→f k≤m)→JE f n≤n*m
 | 0,_=>by simp[JE]
 | n+1,h=>by
  have h1:=h n (by omega)
  have h2:=Ka (f:=f) (m:=m) (n:=n) fun k hk=>h k (by omega)
  show JE f n+f n≤_
  rw[Nat.add_mul]
  omega
theorem zb0 {f g:Nat→Nat}{n:Nat}(h:∀ k,k<n→f k=g k):JE f n=JE g n:=
 Nat.le_antisymm (Yi fun k hk=>Nat.le_of_eq (h k hk)) (Yi fun k hk=>Nat.le_of_eq (h k hk).symm)
def Kb (b:Bool):Nat:=if b=true then 1 else 0
def J2 (s:zq):Nat:=if s.none=true then 0 else (s.hi - s.lo+1).toNat
def Jh (d:Res):Nat:=Kb d.null+Kb d.tr+Kb d.fa+d.l.length+J2 d.span
def qJ (ds:List Res):Nat:=JE (fun k=>Jh (ds.getD k zy)) ds.length
def JH (d:Pd):Nat:=if d.none=true then 0 else 1+(qJ d.vars+JE (fun k=>qJ (d.row k)) d.fields.length)
def Kc (l:List Pd):Nat:=JE (fun k=>JH (l.getD k zQ)) l.length
theorem XP (a b:Bool):Kb a≤Kb (a || b):=by cases a<;>cases b<;>decide
theorem XQ {a b:Bool}(h:(!b || a)=false):Kb a<Kb (a || b):=by revert h;cases a<;>cases b<;>decide
theorem UQ (a:Bool):Kb a≤1:=by cases a<;>decide
structure ZM (f:zq→zq→zq):Prop extends Gt f where
 stay:∀ s t,zm s=0→zm t=0→yJ t s=true→f s t=s
theorem YT {s t:zq}:yJ s t=true↔s.none=true∨(t.none=false∧t.lo≤s.lo∧s.hi≤t.hi):=by
 simp[yJ,Bool.or_eq_true,Bool.and_eq_true,and_assoc]
theorem Zk:ZM both:=by
 refine⟨Jg,fun s t hs ht h=>?_⟩
 obtain⟨-,h2,h3⟩:=zu hs
 obtain⟨-,h5,h6⟩:=zu ht
 obtain⟨sn,sl,sh⟩:=s
 obtain⟨tn,tl,th⟩:=t
 dsimp only at *
 rw[YT]at h
 dsimp only at h
 unfold both
 cases tn with
 | true=>
  obtain⟨rfl,rfl⟩:=h6 rfl
  cases sn with
  | true=>obtain⟨rfl,rfl⟩:=h3 rfl;rfl
  | false=>rfl
 | false=>
  obtain⟨rfl,h7,h8⟩:sn=false∧sl≤tl∧th≤sh:=by simpa using h
  simp only[Bool.false_eq_true,if_false,zq.mk.injEq,true_and]
  omega
theorem ZN:ZM jA:=by
 refine⟨VS,fun s t hs ht h=>?_⟩
 have hb:=Zk.stay s t hs ht h
 unfold jA
 split
 ·exact hb
 ·rename_i hn
  obtain⟨sn,sl,sh⟩:=s
  obtain⟨tn,tl,th⟩:=t
  dsimp only at *
  obtain⟨rfl,rfl⟩:sn=false∧tn=false:=by simpa using hn
  rw[YT]at h
  obtain⟨-,h7,h8⟩:false=false∧sl≤tl∧th≤sh:=by simpa using h
  simp only[zq.mk.injEq,true_and]
  rw[if_neg (by omega),if_neg (by omega)]
  omega
theorem zdE {s t:zq}(hs:zm s=0) (h:∀ a,jT s a=true→jT t a=true):J2 s≤J2 t:=by
 obtain⟨-,h2,-⟩:=zu hs
 unfold J2
 cases hn:s.none with
 | true=>simp
 | false=>
  have h3:=(qv t s.lo).1 (h s.lo ((qv _ _).2 ⟨hn,Int.le_refl _,h2⟩))
  have h4:=(qv t s.hi).1 (h s.hi ((qv _ _).2 ⟨hn,h2,Int.le_refl _⟩))
  rw[h3.1]
  simp only[Bool.false_eq_true,if_false]
  omega
theorem zdF {f:zq→zq→zq}(hf:Gt f) {s t:zq}(hs:zm s=0) (ht:zm t=0) (h:yJ t s=false):J2 s<J2 (f s t):=by
 obtain⟨-,h2,-⟩:=zu hs
 obtain⟨-,h5,-⟩:=zu ht
 have h6:¬ (t.none=true∨(s.none=false∧s.lo≤t.lo∧t.hi≤s.hi)):=fun e=>by rw[YT.2 e]at h;cases h
 have htn:t.none=false:=by cases e:t.none with
  | false=>rfl
  | true=>exact absurd (.inl e) h6
 have h3:=(qv (f s t) t.lo).1 (hf.inr s t t.lo hs ht ((qv _ _).2 ⟨htn,Int.le_refl _,h5⟩))
 have h4:=(qv (f s t) t.hi).1 (hf.inr s t t.hi hs ht ((qv _ _).2 ⟨htn,h5,Int.le_refl _⟩))
 unfold J2
 rw[h3.1]
 simp only[Bool.false_eq_true,if_false]
 cases hn:s.none with
 | true=>simp only[if_true];omega
 | false=>
  have h7:=(qv (f s t) s.lo).1 (hf.inl s t s.lo hs ht ((qv _ _).2 ⟨hn,Int.le_refl _,h2⟩))
  have h8:=(qv (f s t) s.hi).1 (hf.inl s t s.hi hs ht ((qv _ _).2 ⟨hn,h2,Int.le_refl _⟩))
  have h9:¬ (s.lo≤t.lo∧t.hi≤s.hi):=fun e=>h6 (.inr ⟨hn,e⟩)
  simp only[Bool.false_eq_true,if_false]
  omega
theorem zcu {s:zq}(hs:zm s=0):J2 s≤4294967296:=by
 obtain⟨⟨e1,e2,e3,e4⟩,h2,-⟩:=zu hs
 unfold J2
 split<;>omega
theorem YU {α:Type}{p q:α→Bool}:∀ {l:List α},(∀ x∈l,p x=true→q x=true)→(l.filter p).length≤(l.filter q).length
 | [],_=>Nat.le_refl _
 | x::l,h=>by
  have ih:=YU (p:=p) (q:=q) (l:=l) fun y hy=>h y (List.mem_cons_of_mem _ hy)
  have hx:=h x List.mem_cons_self
  rw[List.filter_cons,List.filter_cons]
  cases hp:p x with
  | true=>rw[hx hp];simpa using ih
  | false=>
   cases hq:q x with
   | true=>simp only[Bool.false_eq_true,if_false,if_true,List.length_cons];omega
   | false=>simpa using ih
theorem K6 {α:Type}{p q:α→Bool}{y:α}(hy1:p y=false) (hy2:q y=true):∀ {l:List α},(∀ x∈l,p x=true→q x=true)→y∈l→(l.filter p).length<(l.filter q).length
 | [],_,hy=>by cases hy
 | x::l,h,hy=>by
  have h0:∀ z∈l,p z=true→q z=true:=fun z hz=>h z (List.mem_cons_of_mem _ hz)
  have hx:=h x List.mem_cons_self
  rw[List.filter_cons,List.filter_cons]
  rcases List.mem_cons.1 hy with rfl|hy
  ·rw[hy1,hy2]
   have:=YU h0
   simp only[Bool.false_eq_true,if_false,if_true,List.length_cons]
   omega
  ·have ih:=K6 hy1 hy2 h0 hy
   cases hp:p x with
   | true=>rw[hx hp];simpa using ih
   | false=>
    cases hq:q x with
    | true=>simp only[Bool.false_eq_true,if_false,if_true,List.length_cons];omega
    | false=>simpa using ih
theorem zcv {l:List Int}(h:ZL l) (hi:inS l):l=Yc l []:=by rw[← Yt hi (fun x hx=>by cases hx),UG h]
theorem zeX {l m:List Int}(h:ZL l) (hl:inS l) (hm:inS m):l.length≤(y7 l m).length∧(YI m l=true→l.length<(y7 l m).length):=by
 have e1:l.length=(Yc l []).length:=congrArg List.length (zcv h hl)
 rw[Yt hl hm,e1]
 have h0:∀ x∈(List.range 60).map (fun k:Nat=>(k:Int)),(j6 l x || j6 [] x)=true→(j6 l x || j6 m x)=true:=fun x _ hx=>by
  rw[Bool.or_eq_true]at hx ⊢
  exact .inl (hx.elim id (fun h=>by rw[Zg]at h;cases h))
 refine⟨YU h0,fun hlost=>?_⟩
 obtain⟨k,hk,h2⟩:=KH.1 (show j7 _ _=true from hlost)
 have h3:m.getD k 0∈m:=qX hk
 have h4:j6 l (m.getD k 0)=false:=by simpa using h2
 have h5:=hm _ h3
 refine K6 (y:=m.getD k 0) ?_ ?_ h0 ?_
 ·rw[h4,Bool.false_or]
  cases e:j6 [] (m.getD k 0) with
  | false=>rfl
  | true=>rw[Zg]at e;cases e
 ·rw[Bool.or_eq_true];exact .inr (Zg.2 h3)
 ·rw[List.mem_map];exact⟨(m.getD k 0).toNat,List.mem_range.2 (by omega),by omega⟩
theorem zfV {l m:List Int}(h:ZL l) (hlost:YI m l=false):y7 l m=l:=by
 refine KJ (QJ l m).1 h fun x=>?_
 rw[(QJ l m).2]
 refine⟨fun hx=>hx.elim id fun hx=>?_,.inl⟩
 obtain⟨k,hk,rfl⟩:=List.mem_iff_getElem.1 hx
 cases e:j6 l (m.getD k 0) with
 | true=>
  have:=Zg.1 e
  rwa [List.getD_eq_getElem?_getD,List.getElem?_eq_getElem hk]at this
 | false=>rw[YI,qY hk (by rw[e];rfl)]at hlost;cases hlost
theorem K7 {d e:Res}:Q5 e d=true↔(!e.null || d.null)=true∧(!e.tr || d.tr)=true∧(!e.fa || d.fa)=true∧yJ e.span d.span=true∧YI e.l d.l=false:=by
 show ((!e.null || d.null)&&(!e.tr || d.tr)&&(!e.fa || d.fa)&&yJ e.span d.span && !YI e.l d.l)=true↔_
 simp only[Bool.and_eq_true,Bool.not_eq_true',and_assoc]
theorem YV {f:zq→zq→zq}(hf:ZM f) {d e:Res}(hd:jY d) (he:jY e):Jh d≤Jh (qB f d e)∧(Q5 e d=false→Jh d<Jh (qB f d e))∧(Q5 e d=true→qB f d e=d):=by
 have h1:=XP d.null e.null
 have h2:=XP d.tr e.tr
 have h3:=XP d.fa e.fa
 obtain⟨h4,h4'⟩:=zeX hd.asc hd.ins he.ins
 have h5:J2 d.span≤J2 (f d.span e.span):=zdE hd.span fun a ha=>hf.inl _ _ a hd.span he.span ha
 refine⟨?_,fun hin=>?_,fun hin=>?_⟩
 ·show Jh d≤Kb (d.null || e.null)+Kb (d.tr || e.tr)+Kb (d.fa || e.fa)+(y7 d.l e.l).length+J2 (f d.span e.span)
  unfold Jh
  omega
 ·show Jh d<Kb (d.null || e.null)+Kb (d.tr || e.tr)+Kb (d.fa || e.fa)+(y7 d.l e.l).length+J2 (f d.span e.span)
  unfold Jh
  by_cases g1:(!e.null || d.null)=true
  ·by_cases g2:(!e.tr || d.tr)=true
   ·by_cases g3:(!e.fa || d.fa)=true
    ·by_cases g4:yJ e.span d.span=true
     ·by_cases g5:YI e.l d.l=true
      ·have:=h4' g5;omega
      ·rw[K7.2 ⟨g1,g2,g3,g4,by simpa using g5⟩]at hin;cases hin
     ·have:=zdF hf.toGt hd.span he.span (by simpa using g4);omega
    ·have:=XQ (a:=d.fa) (b:=e.fa) (by simpa using g3);omega
   ·have:=XQ (a:=d.tr) (b:=e.tr) (by simpa using g2);omega
  ·have:=XQ (a:=d.null) (b:=e.null) (by simpa using g1);omega
 ·obtain⟨g1,g2,g3,g4,g5⟩:=K7.1 hin
  have e1:=hf.stay _ _ hd.span he.span g4
  have e2:=zfV hd.asc g5
  have e3:∀ a b:Bool,(!b || a)=true→(a || b)=a:=by decide
  show (⟨d.null || e.null,f d.span e.span,d.tr || e.tr,d.fa || e.fa,y7 d.l e.l⟩:Res)=d
  rw[e1,e2,e3 _ _ g1,e3 _ _ g2,e3 _ _ g3]
theorem zcw {d:Res}(h:jY d):Jh d≤4294967359:=by
 have h1:=UQ d.null
 have h2:=UQ d.tr
 have h3:=UQ d.fa
 have h4:=h.le
 have h5:=zcu h.span
 unfold Jh
 omega
theorem K8 (f:zq→zq→zq) (ds es:List Res) {k n:Nat}(hk:k<n):(yi f ds es n).getD k zy=qB f (ds.getD k zy) (es.getD k zy):=K5 f ds es k n hk
theorem UR {a:Nat}(q:Nat→Bool):jy a a q=!j7 (fun k=>!q k) a:=by simp[jy]
theorem Kd {f:zq→zq→zq}(hf:ZM f) {ds es:List Res}(hn:es.length=ds.length) (hd:∀ k,k<ds.length→jY (ds.getD k zy)) (he:∀ k,k<ds.length→jY (es.getD k zy)):
  qJ ds≤qJ (qF f ds es)∧(qH es ds=false→qJ ds<qJ (qF f ds es))∧(qH es ds=true→qF f ds es=ds):=by
 have hl:(qF f ds es).length=ds.length:=Y3 _ _ _ _
 have hr:qJ (qF f ds es)=JE (fun k=>Jh (qB f (ds.getD k zy) (es.getD k zy))) ds.length:=by
  unfold qJ
  rw[hl]
  exact zb0 fun k hk=>by rw[K8 f ds es hk]
 have h0:∀ k,k<ds.length→Jh (ds.getD k zy)≤Jh (qB f (ds.getD k zy) (es.getD k zy)):=fun k hk=>(YV hf (hd k hk) (he k hk)).1
 rw[hr]
 refine⟨Yi h0,fun hin=>?_,fun hin=>?_⟩
 ·have h1:¬ ∀ k,k<ds.length→Q5 (es.getD k zy) (ds.getD k zy)=true:=fun hall=>by
   unfold qH at hin
   rw[hn,ZD hall]at hin;cases hin
  obtain⟨j,hj⟩:=Classical.not_forall.1 h1
  obtain⟨hj1,hj2⟩:=Classical.not_imp.1 hj
  exact UA ((YV hf (hd j hj1) (he j hj1)).2.1 (by simpa using hj2)) h0 hj1
 ·unfold qH at hin
  rw[hn,UR]at hin
  have h1:∀ k,k<ds.length→Q5 (es.getD k zy) (ds.getD k zy)=true:=fun k hk=>by
   have:=Zj (q:=fun k=>!Q5 (es.getD k zy) (ds.getD k zy)) (by simpa using hin) k hk
   simpa using this
  apply List.ext_getElem hl
  intro k hk1 hk2
  have h2:=K8 f ds es hk2
  rw[(YV hf (hd k hk2) (he k hk2)).2.2 (h1 k hk2)]at h2
  rw[List.getD_eq_getElem?_getD,List.getD_eq_getElem?_getD,List.getElem?_eq_getElem hk2,List.getElem?_eq_getElem (show k<(yi f ds es ds.length).length from hk1)]at h2
  simpa using h2
theorem K9 {ds:List Res}{n:Nat}(hn:ds.length≤n) (hd:∀ k,k<ds.length→jY (ds.getD k zy)):qJ ds≤n*4294967359:=by
 have h1:=Ka (f:=fun k=>Jh (ds.getD k zy)) (m:=4294967359) (n:=ds.length) fun k hk=>zcw (hd k hk)
 have h2:ds.length*4294967359≤n*4294967359:=Nat.mul_le_mul_right _ hn
 exact Nat.le_trans h1 h2
theorem zcx {p:Pg}{f:zq→zq→zq}(hf:ZM f) {d e:Pd}(hd:qk p d) (he:qk p e) (hdn:d.none=false) (hen:e.none=false):
  JH d≤JH (qb f d e)∧(jv e d=false→JH d<JH (qb f d e))∧(jv e d=true→qb f d e=d):=by
 obtain⟨dn,vs,fs⟩:=d
 obtain⟨en,us,gs⟩:=e
 dsimp only at hdn hen
 subst hdn hen
 have hv1:=hd.vars
 have hv2:=he.vars
 have hf1:=hd.fields
 have hf2:=he.fields
 dsimp only at hv1 hv2 hf1 hf2
 have hfl:gs.length=fs.length:=by omega
 obtain⟨a1,a2,a3⟩:=Kd hf (ds:=vs) (es:=us) (by omega) hd.vg (fun k hk=>he.vg k (by show k<us.length;omega))
 have hrow:∀ k,k<fs.length→qJ (fs.getD k [])≤qJ (qF f (fs.getD k []) (gs.getD k []))∧(qH (gs.getD k []) (fs.getD k [])=false→qJ (fs.getD k [])<qJ (qF f (fs.getD k []) (gs.getD k [])))∧(qH (gs.getD k []) (fs.getD k [])=true→qF f (fs.getD k []) (gs.getD k [])=fs.getD k []):=fun k hk=>by
  have e1:((fs.getD k []).length:Int)=p.fields:=hd.rows k hk
  have e2:((gs.getD k []).length:Int)=p.fields:=he.rows k (by show k<gs.length;omega)
  exact Kd hf (by omega) (fun j hj=>hd.fg k j hk hj) (fun j hj=>he.fg k j (by show k<gs.length;omega) (by show j<(gs.getD k []).length;omega))
 have hlen:(qG f ⟨false,vs,fs⟩ ⟨false,us,gs⟩ fs.length).length=fs.length:=by simp[qG]
 have hsum:JE (fun k=>qJ ((qb f ⟨false,vs,fs⟩ ⟨false,us,gs⟩).row k)) (qb f ⟨false,vs,fs⟩ ⟨false,us,gs⟩).fields.length=JE (fun k=>qJ (qF f (fs.getD k []) (gs.getD k []))) fs.length:=by
  show JE (fun k=>qJ ((qG f ⟨false,vs,fs⟩ ⟨false,us,gs⟩ fs.length).getD k [])) (qG f ⟨false,vs,fs⟩ ⟨false,us,gs⟩ fs.length).length=_
  rw[hlen]
  exact zb0 fun k hk=>by rw[Yh _ _ _ _ _ hk]
 have hq:JH (qb f ⟨false,vs,fs⟩ ⟨false,us,gs⟩)=1+(qJ (qF f vs us)+JE (fun k=>qJ (qF f (fs.getD k []) (gs.getD k []))) fs.length):=by
  rw[← hsum];rfl
 have hq0:JH ⟨false,vs,fs⟩=1+(qJ vs+JE (fun k=>qJ (fs.getD k [])) fs.length):=rfl
 rw[hq,hq0]
 have hs:=Yi (f:=fun k=>qJ (fs.getD k [])) (g:=fun k=>qJ (qF f (fs.getD k []) (gs.getD k []))) (n:=fs.length) fun k hk=>(hrow k hk).1
 have hin:jv ⟨false,us,gs⟩ ⟨false,vs,fs⟩=(qH us vs&&y6 gs fs):=rfl
 refine⟨by omega,fun h=>?_,fun h=>?_⟩
 ·rw[hin,Bool.and_eq_false_iff]at h
  rcases h with h|h
  ·have:=a2 h;omega
  ·have h1:¬ ∀ k,k<fs.length→qH (gs.getD k []) (fs.getD k [])=true:=fun hall=>by
    unfold y6 at h
    rw[hfl,ZD hall]at h;cases h
   obtain⟨j,hj⟩:=Classical.not_forall.1 h1
   obtain⟨hj1,hj2⟩:=Classical.not_imp.1 hj
   have:=UA (f:=fun k=>qJ (fs.getD k [])) (g:=fun k=>qJ (qF f (fs.getD k []) (gs.getD k []))) ((hrow j hj1).2.1 (by simpa using hj2)) (n:=fs.length) (fun k hk=>(hrow k hk).1) hj1
   omega
 ·rw[hin,Bool.and_eq_true]at h
  have h1:=a3 h.1
  have h2:qG f ⟨false,vs,fs⟩ ⟨false,us,gs⟩ fs.length=fs:=by
   have h3:=h.2
   unfold y6 at h3
   rw[hfl,UR]at h3
   have h4:∀ k,k<fs.length→qH (gs.getD k []) (fs.getD k [])=true:=fun k hk=>by
    have:=Zj (q:=fun k=>!qH (gs.getD k []) (fs.getD k [])) (by simpa using h3) k hk
    simpa using this
   apply List.ext_getElem hlen
   intro k hk1 hk2
   have h5:=Yh f ⟨false,vs,fs⟩ ⟨false,us,gs⟩ k _ hk2
   rw[show qF f (Pd.row ⟨false,vs,fs⟩ k) (Pd.row ⟨false,us,gs⟩ k)=fs.getD k [] from (hrow k hk2).2.2 (h4 k hk2)]at h5
   rw[List.getD_eq_getElem?_getD,List.getD_eq_getElem?_getD,List.getElem?_eq_getElem hk2,List.getElem?_eq_getElem hk1]at h5
   simpa using h5
  show (⟨false,qF f vs us,qG f ⟨false,vs,fs⟩ ⟨false,us,gs⟩ fs.length⟩:Pd)=_
  rw[h1,h2]
theorem US {p:Pg}{is:Nat→Ins}(hp:zl p is=0) {f:zq→zq→zq}(hf:ZM f) {d e:Pd}(hd:qd p is d=0) (he:qd p is e=0):
  (jv e d=false→JH d<JH (yl f d e))∧(jv e d=true→yl f d e=d):=by
 rw[JQ hp hd he]
 unfold QL
 cases hdn:d.none with
 | true=>
  rw[if_pos rfl]
  have h1:=qk.none hd hdn
  have h2:jv e d=e.none:=by unfold jv;rw[hdn,Bool.or_true,if_pos rfl]
  rw[h2]
  refine⟨fun h=>?_,fun h=>?_⟩
  ·rw[h1]
   show 0<JH e
   unfold JH
   rw[if_neg (by rw[h];decide)]
   omega
  ·rw[h1];exact qk.none he h
 | false=>
  rw[if_neg (by decide)]
  cases hen:e.none with
  | true=>
   have h2:jv e d=true:=by unfold jv;rw[hdn,hen];rfl
   rw[if_pos rfl,h2]
   exact⟨fun h=>(by cases h),fun _=>rfl⟩
  | false=>
   rw[if_neg (by decide)]
   exact(zcx hf (qk.of hd hp hdn) (qk.of he hp hen) hdn hen).2
theorem zcy {p:Pg}{is:Nat→Ins}(hp:zl p is=0) {d:Pd}(hd:qd p is d=0):JH d≤188*4294967359+1:=by
 unfold JH
 cases hdn:d.none with
 | true=>simp
 | false=>
  rw[if_neg (by decide)]
  have h:=qk.of hd hp hdn
  have hs:=(zx hp).1
  have h1:=hs.v2
  have h2:=hs.n1
  have h3:=hs.f2
  have h4:=h.vars
  have h5:=h.fields
  have a1:=K9 (ds:=d.vars) (n:=8) (by omega) h.vg
  have a2:JE (fun k=>qJ (d.row k)) d.fields.length≤d.fields.length*(3*4294967359):=Ka fun k hk=>K9 (by have:=h.rows k hk;omega) (fun j hj=>h.fg k j hk hj)
  have a3:d.fields.length*(3*4294967359)≤60*(3*4294967359):=Nat.mul_le_mul_right _ (by omega)
  exact Nat.le_trans (Nat.add_le_add_left (Nat.add_le_add a1 (Nat.le_trans a2 a3)) 1) (by decide)
theorem zcz {p:Pg}{is:Nat→Ins}(hp:zl p is=0) {l:List Pd}(h:qI p is l):Kc l≤61*(188*4294967359+1):=by
 have h2:=(zx hp).1.n1
 have h3:=h.len
 have a1:=Ka (f:=fun k=>JH (l.getD k zQ)) (m:=188*4294967359+1) (n:=l.length) fun k hk=>zcy hp (h.r k (by omega))
 have a3:l.length*(188*4294967359+1)≤61*(188*4294967359+1):=Nat.mul_le_mul_right _ (by omega)
 exact Nat.le_trans a1 a3
theorem zcA {p:Pg}{is:Nat→Ins}(hp:zl p is=0) {nb:Bool}{i:Nat}{x:Int × Pd}{s:List Pd × Bool}(h:qI p is s.1) (h1:qd p is x.2=0) (h2:0≤x.1∧x.1≤p.n):
  jf nb i x s=s∨((jf nb i x s).2=true∧Kc s.1<Kc (jf nb i x s).1):=by
 unfold jf
 by_cases hi:jv x.2 (s.1.getD x.1.toNat zQ)=true
 ·exact .inl (if_pos hi)
 ·rw[if_neg hi]
  refine .inr ⟨rfl,?_⟩
  have hlen:=h.len
  have hst:ZM (if (nb&&decide (x.1≤i))=true then jA else both):=by
   split
   ·exact ZN
   ·exact Zk
  have hlt:=(US hp hst (h.r x.1.toNat (by omega)) h1).1 (by simpa using hi)
  dsimp only
  generalize yl (if (nb&&decide (x.1≤i))=true then jA else both) (s.1.getD x.1.toNat zQ) x.2=r at hlt
  unfold Kc
  rw[List.length_set]
  refine UA (j:=x.1.toNat) ?_ (fun k hk=>?_) (by omega)
  ·rw[qy _ _ _ _ _ (by omega),if_pos rfl]
   exact hlt
  ·rw[qy _ _ _ _ _ (by omega)]
   split
   ·rename_i e;rw[e];omega
   ·exact Nat.le_refl _
theorem KM {p:Pg}{is:Nat→Ins}(hp:zl p is=0) {nb:Bool}{i:Nat}:∀ (es:List (Int × Pd)) (s:List Pd × Bool),qI p is s.1→(∀ x∈es,(0≤x.1∧x.1≤p.n)∧qd p is x.2=0)→
  qI p is (es.foldl (fun s d=>jf nb i d s) s).1∧(es.foldl (fun s d=>jf nb i d s) s=s∨((es.foldl (fun s d=>jf nb i d s) s).2=true∧Kc s.1<Kc (es.foldl (fun s d=>jf nb i d s) s).1))
 | [],s,h,_=>⟨h,.inl rfl⟩
 | x::es,s,h,he=>by
  obtain⟨h2,h1⟩:=he x List.mem_cons_self
  have hk:=qI.next hp (nb:=nb) (i:=i) h h1 h2
  obtain⟨i1,i2⟩:=KM hp es (jf nb i x s) hk fun y hy=>he y (List.mem_cons_of_mem _ hy)
  rw[List.foldl_cons]
  refine⟨i1,?_⟩
  rcases zcA hp (nb:=nb) (i:=i) h h1 h2 with e|⟨e1,e2⟩
  ·rw[e]at i2 ⊢;exact i2
  ·rcases i2 with e|⟨e3,e4⟩
   ·rw[e];exact .inr ⟨e1,e2⟩
   ·exact .inr ⟨e3,Nat.lt_trans e2 e4⟩
theorem V6 {p:Pg}{is:Nat→Ins}(hp:zl p is=0) {d:Pd}(hr:qd p is d=0) {i:Nat}(hi:i<p.n):∀ x∈(Qg is i d).es,(0≤x.1∧x.1≤p.n)∧qd p is x.2=0:=by
 intro x hx
 unfold Qg at hx
 by_cases hn:d.none=true
 ·rw[if_pos hn]at hx;cases hx
 ·rw[if_neg hn]at hx
  obtain⟨h1,h2⟩:=zaN hp (jh.of hr (by simpa using hn)) hi _ hx
  exact⟨h1,h2.right⟩
theorem Zl {p:Pg}{is:Nat→Ins}(hp:zl p is=0) {nb:Bool}{s:List Pd × Bool}(h:qI p is s.1):∀ k,k≤p.n→
  qI p is (qm is (jf nb) Prod.fst k s).1∧(qm is (jf nb) Prod.fst k s=s∨((qm is (jf nb) Prod.fst k s).2=true∧Kc s.1<Kc (qm is (jf nb) Prod.fst k s).1))
 | 0,_=>⟨h,.inl rfl⟩
 | k+1,hk=>by
  obtain⟨i1,i2⟩:=Zl hp h k (by omega)
  rw[JX]
  unfold UO Uz
  obtain⟨j1,j2⟩:=KM hp (nb:=nb) (i:=k) (Qg is k ((qm is (jf nb) Prod.fst k s).1.getD k zQ)).es (qm is (jf nb) Prod.fst k s) i1 (V6 hp (i1.r k (by omega)) (by omega))
  refine⟨j1,?_⟩
  rcases i2 with e|⟨e1,e2⟩
  ·rw[e]at j2 ⊢;exact j2
  ·rcases j2 with e|⟨e3,e4⟩
   ·rw[e];exact .inr ⟨e1,e2⟩
   ·exact .inr ⟨e3,Nat.lt_trans e2 e4⟩
def zaS (is:Nat→Ins) (pn n:Nat) (l:List Pd):List Pd × Bool:=qm is (jf (decide (3<n))) Prod.fst pn (l,false)
def qZ (is:Nat→Ins) (pn:Nat) (l:List Pd):Nat→List Pd
 | 0=>l
 | k+1=>(zaS is pn (k+1) (qZ is pn l k)).1
def ZO (is:Nat→Ins) (pn:Nat) (l:List Pd) (k:Nat):Bool:=(zaS is pn (k+1) (qZ is pn l k)).2
def yG (is:Nat→Ins) (pn:Nat) (l:List Pd) (k:Nat):Prop:=ZO is pn l k=false∧∀ j,j<k→ZO is pn l j=true
theorem yG.one {is:Nat→Ins}{pn:Nat}{l:List Pd}{k m:Nat}(h:yG is pn l k) (h' : yG is pn l m):k=m:=by
 rcases Nat.lt_trichotomy k m with e|e|e
 ·have:=h'.2 k e;rw[h.1]at this;cases this
 ·exact e
 ·have:=h.2 m e;rw[h'.1]at this;cases this
theorem JI {p:Pg}{is:Nat→Ins}(hp:zl p is=0) {l:List Pd}(h:qI p is l):∀ k,qI p is (qZ is p.n l k)
 | 0=>h
 | k+1=>(Zl hp (nb:=decide (3<k+1)) (s:=(qZ is p.n l k,false)) (JI hp h k) p.n (Nat.le_refl _)).1
theorem V7 {p:Pg}{is:Nat→Ins}(hp:zl p is=0) {l:List Pd}(h:qI p is l):∀ k,(∀ j,j<k→ZO is p.n l j=true)→k≤Kc (qZ is p.n l k)
 | 0,_=>Nat.zero_le _
 | k+1,hc=>by
  have ih:=V7 hp h k fun j hj=>hc j (by omega)
  have h1:=hc k (by omega)
  rcases (Zl hp (nb:=decide (3<k+1)) (s:=(qZ is p.n l k,false)) (JI hp h k) p.n (Nat.le_refl _)).2 with e|⟨_,e⟩
  ·unfold ZO zaS at h1
   rw[e]at h1;cases h1
  ·exact Nat.lt_of_le_of_lt ih e
theorem GA {p:Pg}{is:Nat→Ins}(hp:zl p is=0) {l:List Pd}(h:qI p is l) {k:Nat}(hc:∀ j,j<k→ZO is p.n l j=true):k≤50000000000000:=
 Nat.le_trans (Nat.le_trans (V7 hp h k hc) (zcz hp (JI hp h k))) (by decide)
end Go.Proofs.YtplcndmdkabmeaaGreatDoor
