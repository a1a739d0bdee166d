/-  -/
import Derived.Test.YtplcndmdkabmeaaGreatDoorRangeW
import Derived.Test.YtplcndmdkabmeaaGreatDoorPicc
import Derived.Test.YtplcndmdkabmeaaGreatDoorStpc
import Derived.Test.YtplcndmdkabmeaaGreatDoorStepOk
import Derived.RangeFuncNested
import Derived.RangeFuncBound
import Derived.RangeFuncCalls
import Derived.RangeFuncLeaves
import Derived.RangeFuncBox
import Derived.Shelf.Abstract
import Derived.Shelf.RegionOpen
import Derived.WalkKit
import Derived.OwnWalkIn
import Derived.TacticsInMore
import Derived.LoopNIn
import Derived.LoopIn
set_option linter.unusedSimpArgs false
set_option linter.unusedVariables false
set_option maxRecDepth 100000
set_option maxHeartbeats 4000000
namespace Go.Proofs.YtplcndmdkabmeaaGreatDoor
open Go.RowKit
open Go.RowKit Go.Shelf
attribute [local go_sem] Oper.semAt_some
theorem PicIs.cells {w w' : World}{x:Pv}{d:Pd}(h:PicIs w x d) (hw:∀ b,IsCells w b→w'.heap[b]? = w.heap[b]?):PicIs w' x d:=
 ⟨h.e,h.vars.on (X:=fun _=>True) (fun _ hx=>absurd trivial hx) (fun b _ hc=>hw b hc),h.fields.on (X:=fun _=>True) (fun _ hx=>absurd trivial hx) (fun b _ hc=>hw b hc),h.m⟩
def NewE (B:Nat) (w:World) (S:Datum):Prop:=∃ X:Nat→Prop,(∀ b,X b→B≤b∧b<w.heap.size)∧On w X S
theorem NewE.at' {B:Nat}{w:World}{S:Datum}(h:NewE B w S):S w:=by
 obtain⟨X,_,hO⟩:=h;exact hO w (fun _ _=>rfl)
theorem NewE.keep {B:Nat}{w w' : World}{S:Datum}(h:NewE B w S) (hk:KeepB B w w'):NewE B w' S:=by
 obtain⟨X,hX,hO⟩:=h
 exact⟨X,fun b hx=>⟨(hX b hx).1,Nat.lt_of_lt_of_le (hX b hx).2 hk.size⟩,fun w2 h2=>hO w2 (fun b hx=>(h2 b hx).trans (hk.same b (hX b hx).1 (hX b hx).2))⟩
theorem Loc.newE {w w' : World}{S:Datum}{L:List LBlk}{D:List Datum}(h:Loc w w' L (S::D)) {B:Nat}(hB:B≤w.heap.size):NewE B w' S:=by
 obtain⟨X,hX,hO⟩:=h.data S List.mem_cons_self
 exact⟨X,fun b hx=>⟨Nat.le_trans hB (hX b hx).1.2,(hX b hx).1.1⟩,hO⟩
structure SolvAt (p:Pg) (is:Nat→Ins) (bs:Nat) (s:Sl) (l:List Pd) (W:World):Prop where
 h:W.heap[bs]? = some (.cells #[.int .i64 p.vars,.int .i64 p.fields,.slice p.pc p.n p.cap,.slice s.p s.n s.cap] 144 (0,0))
 c:CodeAt W p is
 n:s.n=p.n+1
 len:l.length=p.n+1
 x:∃ xs:Nat→Pv,ListC W 3 s.p s.n (fun k=>(xs k).cells)∧∀ k,k<s.n→PicIs W (xs k) (l.getD k nonePd)
 r:∀ k,k≤p.n→rightP p is (l.getD k nonePd)=0
structure EdX where
 i:Nat
 e:EdV
 d:Int × Pd
abbrev EdX.encs (x:EdX):Array Value:=#[.int .i64 x.i,.agg #[.int .i64 x.e.go,.bool x.e.x.none,.slice x.e.x.vars.p x.e.x.vars.n x.e.x.vars.cap,.slice x.e.x.fields.p x.e.x.fields.n x.e.x.fields.cap]]
structure EdOk (p:Pg) (is:Nat→Ins) (x:EdX) (W:World):Prop where
 i:x.i<p.n
 of:∃ d:Pd,rightP p is d=0∧x.d∈(rawD is x.i d).es
 go:x.e.go=x.d.1
 x:PicIs W x.e.x x.d.2
theorem EdOk.abides {p:Pg}{is:Nat→Ins}{x:EdX}{B:Nat}:Abides B (EdOk p is x):=
 ⟨fun _ _ hb h=>⟨h.i,h.of,h.go,h.x.grow hb⟩,fun W r r' hr h=>⟨h.i,h.of,h.go,h.x.cells (fun b ⟨cs,T,f,hc⟩=>World.putObj_heap_other (fun e=>by subst e;rw[hr]at hc;cases hc))⟩⟩
def EdAt {σ:Type}(p:Pg) (is:Nat→Ins) (pics:σ→List Pd) (s:σ) (x:EdX) (W:World):Prop:=EdOk p is x W∧((∀ a b,pics a=pics b)→x.d∈(rawD is x.i ((pics s).getD x.i nonePd)).es)
theorem EdAt.abides {σ:Type}{p:Pg}{is:Nat→Ins}{pics:σ→List Pd}{s:σ}{x:EdX}{B:Nat}:Abides B (EdAt p is pics s x):=
 ⟨fun W W' hb h=>⟨(EdOk.abides (B:=B)).grow W W' hb h.1,h.2⟩,fun W r r' hr h=>⟨(EdOk.abides (B:=B)).turn W r r' hr h.1,h.2⟩⟩
section
variable {σ : Type} (is : Nat → Ins) (nx : Nat → Int × Pd → σ → σ) (pics : σ → List Pd)
def edgesOf (i:Nat) (s:σ):List (Int × Pd):=(rawD is i ((pics s).getD i nonePd)).es
def stepAt (i:Nat) (s:σ):σ:=(edgesOf is pics i s).foldl (fun s d=>nx i d s) s
def allEdges (k:Nat) (s:σ):σ:=(List.range k).foldl (fun s i=>stepAt is nx pics i s) s
theorem allEdges_next (k:Nat) (s:σ):allEdges is nx pics (k+1) s=stepAt is nx pics k (allEdges is nx pics k s):=by
 unfold allEdges
 rw[List.range_succ,List.foldl_append]
 rfl
end
theorem foldl_next {α β:Type}(f:β→α→β) (l:List α) (d:α) (k:Nat) (hk:k<l.length) (s:β):(l.take (k+1)).foldl f s=f ((l.take k).foldl f s) (l.getD k d):=by
 rw[take_next l k d hk,List.foldl_append]
 rfl
def RawR (wq:World) (o:Outs):Value→World→Prop:=fun v w=>∃ s:Sl,v=.tuple #[.slice s.p s.n s.cap,.bool o.wr,.bool o.fl]∧GotEs wq w s o.es
theorem RawR.stable {wq:World}{o:Outs}:Stable (RawR wq o):=by
 rintro v w w' hb ⟨r,h1,h2⟩;exact⟨r,h1,h2.grow hb⟩
def EdsQ (wq:World) (es:List (Int × Pd)):Value→World→Prop:=fun v w=>∃ s:Sl,v=.slice s.p s.n s.cap∧GotEs wq w s es
theorem EdsQ.stable {wq:World}{es:List (Int × Pd)}:Stable (EdsQ wq es):=by
 rintro v w w' hb ⟨r,h1,h2⟩;exact⟨r,h1,h2.grow hb⟩
theorem SolvAt.reads {p:Pg}{is:Nat→Ins}{bs:Nat}{s:Sl}{l:List Pd}{W:World}(h:SolvAt p is bs s l W):ReadsAt Tryz.prog 27 W bs 0 p.v∧ReadsAt Tryz.prog 25 W bs 2 (.slice p.pc p.n p.cap)∧ReadsAt Tryz.prog 58 W bs 3 (.slice s.p s.n s.cap):=by
 have hc:∀ j v,[Value.int .i64 p.vars,.int .i64 p.fields,.slice p.pc p.n p.cap,.slice s.p s.n s.cap][j]? = some v→W.cell? ⟨bs,j,none⟩=some v:=fun j v hj=>by
  have e:W.cell? ⟨bs,j,none⟩=[Value.int .i64 p.vars,.int .i64 p.fields,.slice p.pc p.n p.cap,.slice s.p s.n s.cap][j]? :=by simp[World.cell?,h.h]
  rw[e];exact hj
 refine⟨ReadsAt.agg (l:=[.int .i64 p.vars,.int .i64 p.fields,.slice p.pc p.n p.cap]) tProg (heap_lt h.h) (fun j v hj=>?_) rfl,ReadsAt.cell tInstrs (heap_lt h.h) (hc 2 _ rfl),ReadsAt.cell tPics (heap_lt h.h) (hc 3 _ rfl)⟩
 rw[Nat.zero_add]
 refine hc j v ?_
 have hj3:j<3:=(List.getElem?_eq_some_iff.1 hj).1
 obtain rfl|rfl|rfl:j=0∨j=1∨j=2:=by omega
 all_goals exact hj
theorem edges_in {σ:Type}(p:Pg) (is:Nat→Ins) (hp:checkProg p is=0) (bs:Nat) (s0:Sl) (nx:Nat→Int × Pd→σ→σ) (pics:σ→List Pd) (n B:Nat):
  Yields' Tryz.prog n 99 #[.pointer (some ⟨bs,0,none⟩)] #[] EdX.encs (fun s=>SolvAt p is bs s0 (pics s)) (EdAt p is pics) (fun s x=>nx x.i x.d s) (allEdges is nx pics p.n) B:=by
 intro l J Jx s W hN hg hY hB h0
 refine callsIn_of_wp Tryz.func99 rfl trivial ?_ rfl
 simp only[Tryz.ntmps99,List.size_toArray,List.length_cons,List.length_nil,Nat.reduceAdd,Nat.reduceSub,Array.replicate_succ,Array.replicate_zero,List.push_toArray,List.append_toArray,List.nil_append,List.cons_append]
 have hs:=(prog_right hp).1.n1
 obtain⟨hr1,hr2,hr3⟩:=(hN s W h0).reads
 have hL:=Loc.start W
 have HR2:=Lib.hid hr2
 clear hr1 hr2 hr3
 refine wpIn_seq_k (fun K hK=>?_)
 refine region_in ?hd ?hq ?hw
 case hd=>decide
 case hq=>rintro⟨_,_,⟨v,hv⟩,_⟩;cases hv
 go_wp2_with (first|(with_reducible refine ldB HR2.out hL ?_)|(with_reducible first|refine lld hL ?_|((first|refine lbx hL ?_|refine lal hL ?_|refine lbs hL ?_);clear hL;intro bl w1 hL)|(refine lst' hL ?_;clear hL;intro w1 hL)))
 gi_wp2
 gi_loopw [16] (fun c wz=>∃ i:Nat,c=.int .i64 i∧i≤p.n∧W.heap.size≤wz.heap.size∧J (allEdges is nx pics i s) wz) (fun c _=>p.n+1 - (intOf c).toNat)
 case atStart=>exact⟨0,rfl,Nat.zero_le _,Nat.le_refl _,h0⟩
 case round=>
  obtain⟨i,rfl,hi,hWz,hJz⟩:=hrel
  clear hL HR2
  obtain⟨hr1,hr2,hr3⟩:=(hN _ wr hJz).reads
  clear hr2
  by_cases hlt:i<p.n
  ·have hc:decide ((i:Int)<(p.n:Int))=true:=decide_eq_true (by omega)
   have hS:=hN _ wr hJz
   obtain⟨xs,hxl,hxd⟩:=hS.x
   obtain⟨bx,ox,hpp,hcc⟩:=hxl.ex
   have hin:i<s0.n:=by rw[hS.n];omega
   have hr5:=ReadsAt.agg (P:=Tryz.prog) tPic (hcc i hin).1 (hcc i hin).2 rfl
   rw[hpp (Nat.lt_of_le_of_lt (Nat.zero_le _) hin)]at hr3
   have hrt:=hS.r i hi
   have hrw:=fun w' (hb:Below wr.heap.size wr w')=>raw_any p is (xs i) ((pics (allEdges is nx pics i s)).getD i nonePd) i w' hp (hS.c.grow hb) ((hxd i hin).grow hb) hrt hlt
   have hbp:i<9223372036854775807:=by omega
   have hns:((i:Int)<(s0.n:Int)):=by omega
   have hnx:=allEdges_next is nx pics i s
   unfold stepAt edgesOf at hnx
   generalize hdd:(pics (allEdges is nx pics i s)).getD i nonePd=d at hrw hrt hnx
   generalize hoo:rawD is i d=o at hrw hnx
   have HDD:=Lib.hid hdd
   clear hdd hxl hpp hcc hxd hS
   generalize xs i=x at hr5 hrw
   obtain⟨xn,⟨xp,xvn,xc⟩,⟨xfp,xfn,xfc⟩⟩:=x
   try dsimp only[Pv.v,Pv.cells]at hr5 hrw
   have HR1:=Lib.hid hr1
   have HR3:=Lib.hid hr3
   have HR5:=Lib.hid hr5
   have HRW:=Lib.hid hrw
   have HNX:=Lib.hid hnx
   have HO:=Lib.hid hoo
   have HRT:=Lib.hid hrt
   clear hr1 hr3 hr5 hrw hnx hoo hrt
   obtain⟨wq,hwq⟩:∃ x,x=wr:=⟨_,rfl⟩
   subst hwq
   have hL:=Loc.start wq
   gi_wp2
   refine draw_in ?hd3 ?hq3 ?hw3
   case hd3=>decide
   case hq3=>rintro⟨_,_,⟨v,hv⟩,_⟩;cases hv
   refine draw_beginI [20,21,22,23,24,25,26,27,28,29,30,31,32,19,33,34,35,5,6,7] ?_
   refine dv0 ?_
   refine dv1 0 ?_
   refine dv1 1 ?_
   apply draw_val
   ·intro g w hb y;replace hL:=hL.grow hb;have d2:=yv y 2;clear y;simp only[fillD,fLa,fLb,sTa,sTb];simp only[d2]
    refine loc_loadB HR1.out hL rfl rfl ?_
    exact cY
   simp only[apN,apC]
   refine dv0 ?_
   refine dv0 ?_
   refine dv1 5 ?_
   refine dv1 6 ?_
   apply draw_val
   ·intro g w hb y;replace hL:=hL.grow hb;have d7:=yv y 7;clear y;simp only[fillD,fLa,fLb,sTa,sTb];simp only[d7]
    refine loc_loadB HR3.out hL rfl rfl ?_
    exact cY
   simp only[apN,apC]
   refine dv0 ?_
   refine dv2 8 9 ?_
   apply draw_val
   ·intro g w hb y;replace hL:=hL.grow hb;have d10:=yv y 10;clear y;simp only[fillD,fLa,fLb,sTa,sTb];simp only[d10]
    refine loc_loadB HR5.out hL rfl rfl ?_
    exact cY
   simp only[apN,apC]
   refine draw_next (RawR wq o) RawR.stable ?_ ?_
   ·intro g w hb y;replace hL:=hL.grow hb;have d3:=yv y 3;have d4:=yv y 4;have d11:=yv y 11;clear y;simp only[fillD,fLa,fLb,sTa,sTb];simp only[d3,d4,d11]
    go_wp2_with (go_at_call 62;refine(HRW.out _ hL.below).mono ?_;rintro e w3 ⟨s1,rfl,hG⟩;dsimp only)
    exact⟨rfl,_,rfl,hG.below,s1,rfl,Loc.since hb hG⟩
   simp only[apN,apC]
   refine draw_next (RawR wq o) RawR.stable ?_ ?_
   ·intro g w hb y;replace hL:=hL.grow hb;have d12:(RawR wq o) (g 32) w:=yr y 12;obtain⟨s1,d12,hG⟩:=d12;clear y;simp only[fillD,fLa,fLb,sTa,sTb];simp only[d12]
    go_wp2_with (fail)
    exact⟨rfl,_,rfl,Below.refl _ _,s1,rfl,hG⟩
   simp only[apN,apC]
   refine draw_next (EdsQ wq o.es) EdsQ.stable ?_ ?_
   ·intro g w hb y;replace hL:=hL.grow hb;have d13:(RawR wq o) (g 19) w:=yr y 13;obtain⟨s1,d13,hG⟩:=d13;clear y;simp only[fillD,fLa,fLb,sTa,sTb];simp only[d13]
    go_wp2_with (fail)
    exact⟨rfl,_,rfl,Below.refl _ _,s1,rfl,hG⟩
   simp only[apN,apC]
   apply draw_val
   ·intro g w hb y;replace hL:=hL.grow hb;have d13:(RawR wq o) (g 19) w:=yr y 13;obtain⟨s1,d13,hG⟩:=d13;clear y;simp only[fillD,fLa,fLb,sTa,sTb];simp only[d13]
    go_wp2
    exact cY
   simp only[apN,apC]
   apply draw_val
   ·intro g w hb y;replace hL:=hL.grow hb;have d13:(RawR wq o) (g 19) w:=yr y 13;obtain⟨s1,d13,hG⟩:=d13;clear y;simp only[fillD,fLa,fLb,sTa,sTb];simp only[d13]
    go_wp2
    exact cY
   simp only[apN,apC]
   refine draw_next (EdsQ wq o.es) EdsQ.stable ?_ ?_
   ·intro g w hb y;replace hL:=hL.grow hb;have d14:(EdsQ wq o.es) (g 33) w:=yr y 14;obtain⟨s1,d14,hG⟩:=d14;clear y;simp only[fillD,fLa,fLb,sTa,sTb];simp only[d14]
    go_wp2_with (fail)
    exact⟨rfl,_,rfl,Below.refl _ _,s1,rfl,hG⟩
   simp only[apN,apC]
   refine dv1 15 ?_
   refine dv1 16 ?_
   refine draw_endI hL (by kernel_rfl) (by kernel_rfl) ?_
   intro g w2 hb hR;simp only[List.length_cons,List.length_nil,Nat.reduceAdd]at hR
   have e0:=yv hR 0
   have e1:=yv hR 1
   have e2:=yv hR 2
   have e3:=yv hR 3
   have e4:=yv hR 4
   have e5:=yv hR 5
   have e6:=yv hR 6
   have e7:=yv hR 7
   have e8:=yv hR 8
   have e9:=yv hR 9
   have e10:=yv hR 10
   have e11:=yv hR 11
   have e12:(RawR wq o) (g 32) w2:=yr hR 12
   obtain⟨sz12,e12,-⟩:=e12
   have e13:(RawR wq o) (g 19) w2:=yr hR 13
   obtain⟨sz13,e13,-⟩:=e13
   have e14:(EdsQ wq o.es) (g 33) w2:=yr hR 14
   obtain⟨sz14,e14,-⟩:=e14
   have e15:=yv hR 15
   have e16:=yv hR 16
   have e17:(EdsQ wq o.es) (g 5) w2:=yr hR 17
   obtain⟨⟨sp,sn,sc⟩,e17,hGE⟩:=e17;have hb0:=hb
   have e18:=yv hR 18
   have e19:=yv hR 19
   clear hR;simp only[fillD,fLa,fLb,sTa,sTb]
   simp only[e0,e1,e2,e3,e4,e5,e6,e7,e8,e9,e10,e11,e12,e13,e14,e15,e16,e17,e18,e19]
   clear e0 e1 e2 e3 e4 e5 e6 e7 e8 e9 e10 e11 e12 e13 e14 e15 e16 e17 e18 e19
   replace hL:=hL.grow hb
   clear hb
   clear hL HRW HR1 HR3 HR5
   have hL:=hGE
   clear hGE
   have hJ2:=hg _ wq w2 hb0 hJz
   have hw2:W.heap.size≤w2.heap.size:=Nat.le_trans hWz hb0.size
   have hNE:=hL.newE (Nat.le_trans hB hWz)
   have hsm:=hNE.at'.m
   clear hJz hWz hb0
   go_wp2
   gi_wp2
   gi_loopw [38] (fun c wz=>∃ k:Nat,c=.int .i64 k∧k≤o.es.length∧W.heap.size≤wz.heap.size∧J ((o.es.take k).foldl (fun s d=>nx i d s) (allEdges is nx pics i s)) wz∧NewE B wz (fun w=>EdsIs w ⟨sp,sn,sc⟩ o.es)) (fun c _=>o.es.length+1 - (intOf c).toNat)
   case atStart=>exact⟨0,rfl,Nat.zero_le _,hw2,hJ2,hNE⟩
   case round=>
    obtain⟨k,rfl,hk,hWz,hJz,hNz⟩:=hrel
    clear hL hJ2 hw2 hNE
    have hen:=hNz.at'.n
    dsimp only at hen hsm
    by_cases hlk:k<o.es.length
    ·have hck:decide ((k:Int)<(sn:Int))=true:=decide_eq_true (by omega)
     have hks:k<sn:=by omega
     have hkb:k<9223372036854775807:=by have hmx:maxLen=9223372036854775807:=rfl;omega
     have hle2:k+1≤o.es.length:=hlk
     obtain⟨-,-,evs,hed,hel⟩:=hNz.at'
     obtain⟨be,oe,hpp,hcc⟩:=hel.ex
     dsimp only at hpp
     obtain rfl:=hpp (by omega)
     clear hpp
     have hr6:=ReadsAt.agg (P:=Tryz.prog) tEdge (hcc k hks).1 (hcc k hks).2 rfl
     obtain⟨hgo,hpic⟩:=hed.at' k hlk
     have hmem:o.es.getD k (0,zeroPd)∈o.es:=by
      rw[List.getD_eq_getElem?_getD,List.getElem?_eq_getElem hlk]
      exact List.getElem_mem hlk
     have hnk:=foldl_next (fun s d=>nx i d s) o.es (0,zeroPd) k hlk (allEdges is nx pics i s)
     generalize o.es.getD k (0,zeroPd)=dk at hgo hpic hmem hnk
     generalize evs.getD k zeroE=ek at hr6 hgo hpic
     clear hed hel hcc
     obtain⟨ego,en,⟨ep,evn,ec⟩,⟨efp,efn,efc⟩⟩:=ek
     dsimp only[EdV.cells]at hr6 hgo hpic
     have HR6:=Lib.hid hr6
     have HPC:=Lib.hid hpic
     have HMEM:=Lib.hid hmem
     have HNK:=Lib.hid hnk
     have HGO:=Lib.hid hgo
     clear hr6 hpic hmem hnk hgo hen
     have hL:=Loc.start wr
     iterate 2 gi_step
     refine region_in ?hd5 ?hq5 ?hw5
     case hd5=>decide
     case hq5=>rintro⟨_,_,⟨v,hv⟩,_⟩;cases hv
     go_wp2
     iterate 8 gi_step
     refine region_in ?hd6 ?hq6 ?hw6
     case hd6=>decide
     case hq6=>rintro⟨_,_,⟨v,hv⟩,_⟩;cases hv
     go_wp2_with (first|(with_reducible refine ldB HR6.out hL ?_)|(with_reducible first|refine lld hL ?_|((first|refine lbx hL ?_|refine lal hL ?_|refine lbs hL ?_);clear hL;intro bl w1 hL)|(refine lst' hL ?_;clear hL;intro w1 hL)))
     have hh:=hL.heap cIn
     have hc0:w1.cell? ⟨bl,0,none⟩=some (.int .i64 ego):=by simp[World.cell?,hh]
     have hc1:w1.cell? ⟨bl,1,none⟩=some (.bool en):=by simp[World.cell?,hh]
     have hc2:w1.cell? ⟨bl,2,none⟩=some (.slice ep evn ec):=by simp[World.cell?,hh]
     have hc3:w1.cell? ⟨bl,3,none⟩=some (.slice efp efn efc):=by simp[World.cell?,hh]
     have hJ1:=hg _ wr w1 hL.below hJz
     have hN1:=hNz.keep (KeepB.of (B:=B) hL.below)
     have hw1:W.heap.size≤w1.heap.size:=Nat.le_trans hWz hL.below.size
     have hy0:=hY _ ⟨i,⟨ego,⟨en,⟨ep,evn,ec⟩,⟨efp,efn,efc⟩⟩⟩,dk⟩ w1 hJ1 ⟨⟨hlt,⟨d,HRT.out,by rw[HO.out];exact HMEM.out⟩,HGO.out,HPC.out.grow hL.below⟩,fun hcn=>by rw[hcn _ (allEdges is nx pics i s),HDD.out,HO.out];exact HMEM.out⟩
     dsimp only[EdX.encs]at hy0
     obtain⟨fn,tmps,assign,body,hy,hR⟩:=hy0
     clear hh hL HR6 HPC HMEM HGO hJz hNz hWz hJ1
     gi_wp2
     refine⟨fun h=>(by cases h),hR.mono ?_⟩
     rintro e W3 (⟨rfl,hJ3,hk3⟩|⟨rfl,hJx3⟩)
     ·rw[← HNK.out]at hJ3
      gi_wp2
      go_roundw
      case rel=>exact⟨k+1,by go_num,hlk,Nat.le_trans hw1 hk3.size,hJ3,hN1.keep hk3⟩
      case measure=>simp[intOf];omega
     ·gi_wp2
      refine bodyPost_ret (results_none rfl _ _ _) rfl ?_
      exact⟨⟨_,rfl⟩,.inr hJx3⟩
    ·have hck:decide ((k:Int)<(sn:Int))=false:=decide_eq_false (by omega)
     have hke:k=o.es.length:=by omega
     rw[hke,List.take_length,← HNX.out]at hJz
     obtain rfl:sn=k:=by omega
     clear hen hke hk
     gi_wp2
     go_roundw
     case rel=>exact⟨i+1,by go_num,by omega,hWz,hJz⟩
     case measure=>simp[intOf];omega
  ·have hc:decide ((i:Int)<(p.n:Int))=false:=decide_eq_false (by omega)
   obtain rfl:i=p.n:=by omega
   clear hr1 hr3
   gi_wp2
   go_end0
   exact⟨⟨_,rfl⟩,.inl hJz⟩
end Go.Proofs.YtplcndmdkabmeaaGreatDoor
set_option linter.unusedSimpArgs false
set_option linter.unusedVariables false
set_option maxRecDepth 100000
namespace Go.Proofs.YtplcndmdkabmeaaGreatDoor
open Go.RowKit
theorem lenP3 (x:Pv):x.cells.length=3:=rfl
def zeroPv:Pv:=⟨false,nilSl,nilSl⟩
def PicsD (xs:List Pv) (l:List Pd):Datum:=fun w=>∀ k,k<l.length→PicIs w (xs.getD k zeroPv) (l.getD k nonePd)
theorem PicsD.on {xs:List Pv}{l:List Pd}{w w' : World}{X:Nat→Prop}(h:On w X (PicsD xs l)) (hw:∀ b,X b→IsCells w b→w'.heap[b]? = w.heap[b]?):PicsD xs l w':=
 fun k hk=>PicIs.on (X:=X) (fun w2 h2=>h w2 h2 k hk) hw
theorem PicsD.set {xs:List Pv}{l:List Pd}{w:World}(h:PicsD xs l w) (hl:xs.length=l.length) {t:Nat}{r:Pv}{d:Pd}(hr:PicIs w r d):PicsD (xs.set t r) (l.set t d) w:=by
 intro k hk
 rw[List.length_set]at hk
 by_cases h1:k=t
 ·subst h1
  rw[getD_set _ _ _ _ _ (by omega),if_pos rfl,getD_set _ _ _ _ _ hk,if_pos rfl]
  exact hr
 ·by_cases ht:t<l.length
  ·rw[getD_set _ _ _ _ _ (by omega),if_neg h1,getD_set _ _ _ _ _ ht,if_neg h1]
   exact h k hk
  ·rw[List.set_eq_of_length_le (by omega),List.set_eq_of_length_le (by omega)]
   exact h k hk
theorem Loc.turnL {w0 w:World}{L:List LBlk}{xs:List Pv}{l:List Pd}(h:Loc w0 w L [PicsD xs l]) {r:Nat}(hr:w0.heap.size≤r) {o' : Obj}(ho:¬ IsCells w r):Loc w0 (w.putObj r o') L [PicsD xs l]:=by
 have hoth:∀ b,b≠r→(w.putObj r o').heap[b]? = w.heap[b]? :=fun b hb=>World.putObj_heap_other hb
 have hsz:(w.putObj r o').heap.size=w.heap.size:=by simp[World.putObj]
 refine⟨⟨h.below.os,h.below.tape,h.below.output,by rw[hsz];exact h.below.size,fun k hk=>(hoth k (by omega)).trans (h.below.block k hk)⟩,h.nodup,h.ids,fun e he=>?_,fun S hS=>?_⟩
 ·have h1:=h.cells e he
  rw[hoth _ (fun e2=>by rw[e2]at h1;exact ho ⟨_,_,_,h1⟩)]
  exact h1
 ·rw[List.mem_singleton]at hS
  subst hS
  obtain⟨X,hX,hO⟩:=h.data _ List.mem_cons_self
  refine⟨fun b=>X b∧IsCells w b,fun b hb=>⟨⟨by rw[hsz];exact(hX b hb.1).1.1,(hX b hb.1).1.2⟩,(hX b hb.1).2⟩,fun w' hw'=>?_⟩
  refine PicsD.on hO (fun b hx hc=>?_)
  rw[hw' b ⟨hx,hc⟩,hoth b (fun e2=>by subst e2;exact ho hc)]
def SolM (w0:World) (p:Pg) (bs:Nat) (s0:Sl) (A:List LBlk) (l:List Pd) (w:World):Prop:=
 ∃ (xs:List Pv) (R:List LBlk),xs.length=l.length∧RowS 54 3 s0.p s0.n s0.cap (xs.flatMap Pv.cells) R∧Loc w0 w ((bs,144,[.int .i64 p.vars,.int .i64 p.fields,.slice p.pc p.n p.cap,.slice s0.p s0.n s0.cap])::(R++A)) [PicsD xs l]
structure PicsOk (p:Pg) (is:Nat→Ins) (l:List Pd):Prop where
 len:l.length=p.n+1
 r:∀ k,k≤p.n→rightP p is (l.getD k nonePd)=0
theorem SolM.at' {w0 w:World}{p:Pg}{is:Nat→Ins}{bs:Nat}{s0:Sl}{A:List LBlk}{l:List Pd}(h:SolM w0 p bs s0 A l w) (hc:CodeAt w0 p is) (ho:PicsOk p is l):SolvAt p is bs s0 l w:=by
 obtain⟨xs,R,hl,hR,hL⟩:=h
 have hn:=hR.flatlen lenP3 (by decide)
 have ho2:Own w0.heap.size w R:=⟨by
  have h1:=hL.nodup
  rw[List.map_cons,List.map_append]at h1
  exact(List.nodup_append.1 (List.nodup_cons.1 h1).2).1,fun e he=>⟨hL.ids e (List.mem_cons_of_mem _ (List.mem_append_left _ he)),hL.cells e (List.mem_cons_of_mem _ (List.mem_append_left _ he))⟩⟩
 obtain⟨_,h2⟩:=hR.listC lenP3 zeroPv (by decide) ho2
 have hp:=hL.get (S:=PicsD xs l) List.mem_cons_self
 exact⟨hL.cells _ List.mem_cons_self,hc.grow hL.below,by rw[hn,hl,ho.len],ho.len,⟨fun k=>xs.getD k zeroPv,h2,fun k hk=>hp k (by omega)⟩,ho.r⟩
theorem SolM.grow {w0 w w' : World}{p:Pg}{bs:Nat}{s0:Sl}{A:List LBlk}{l:List Pd}(h:SolM w0 p bs s0 A l w) (hb:Below w.heap.size w w'):SolM w0 p bs s0 A l w':=by
 obtain⟨xs,R,hl,hR,hL⟩:=h
 exact⟨xs,R,hl,hR,hL.grow hb⟩
theorem SolM.turn {w0 w:World}{p:Pg}{bs:Nat}{s0:Sl}{A:List LBlk}{l:List Pd}(h:SolM w0 p bs s0 A l w) {r:Nat}(hr:w0.heap.size≤r) {o' : Obj}(ho:¬ IsCells w r):SolM w0 p bs s0 A l (w.putObj r o'):=by
 obtain⟨xs,R,hl,hR,hL⟩:=h
 exact⟨xs,R,hl,hR,hL.turnL hr ho⟩
def nxtS (nb:Bool) (i:Nat) (x:Int × Pd) (s:List Pd × Bool):List Pd × Bool:=
 if insideP x.2 (s.1.getD x.1.toNat nonePd)=true then s
 else (s.1.set x.1.toNat (bothP (if (nb&&decide (x.1≤i))=true then wider else both) (s.1.getD x.1.toNat nonePd) x.2),true)
theorem PicsOk.next {p:Pg}{is:Nat→Ins}(hp:checkProg p is=0) {nb:Bool}{i:Nat}{x:Int × Pd}{s:List Pd × Bool}(h:PicsOk p is s.1) (h1:rightP p is x.2=0) (h2:0≤x.1∧x.1≤p.n):PicsOk p is (nxtS nb i x s).1:=by
 unfold nxtS
 by_cases hi:insideP x.2 (s.1.getD x.1.toNat nonePd)=true
 ·rw[if_pos hi];exact h
 ·rw[if_neg hi]
  refine⟨by simp only[List.length_set];exact h.len,fun k hk=>?_⟩
  dsimp only
  rw[getD_set _ _ _ _ _ (by have:=h.len;omega)]
  by_cases hkt:k=x.1.toNat
  ·rw[if_pos hkt]
   subst hkt
   refine right_both ?_ hp (h.r _ hk) h1
   split
   ·exact puts_wider
   ·exact puts_both
  ·rw[if_neg hkt]
   exact h.r k hk
end Go.Proofs.YtplcndmdkabmeaaGreatDoor
set_option linter.unusedSimpArgs false
set_option linter.unusedVariables false
set_option maxRecDepth 100000
namespace Go.Proofs.YtplcndmdkabmeaaGreatDoor
open Go.RowKit
def sumN (f:Nat→Nat):Nat→Nat
 | 0=>0
 | n+1=>sumN f n+f n
theorem sumN_le {f g:Nat→Nat}:∀ {n:Nat},(∀ k,k<n→f k≤g k)→sumN f n≤sumN g n
 | 0,_=>Nat.le_refl _
 | n+1,h=>Nat.add_le_add (sumN_le fun k hk=>h k (by omega)) (h n (by omega))
theorem sumN_lt {f g:Nat→Nat}{j:Nat}(hs:f j<g j):∀ {n:Nat},(∀ k,k<n→f k≤g k)→j<n→sumN f n<sumN g n
 | 0,_,hj=>absurd hj (Nat.not_lt_zero j)
 | n+1,h,hj=>by
  show sumN f n+f n<sumN g n+g n
  have h1:=h n (by omega)
  by_cases e:j=n
  ·subst e
   have h2:=sumN_le (f:=f) (g:=g) (n:=j) fun k hk=>h k (by omega)
   omega
  ·have h2:=sumN_lt hs (n:=n) (fun k hk=>h k (by omega)) (by omega)
   omega
theorem sumN_top {f:Nat→Nat}{m:Nat}:∀ {n:Nat},(∀ k,k<n→f k≤m)→sumN f n≤n*m
 | 0,_=>by simp[sumN]
 | n+1,h=>by
  have h1:=h n (by omega)
  have h2:=sumN_top (f:=f) (m:=m) (n:=n) fun k hk=>h k (by omega)
  show sumN f n+f n≤_
  rw[Nat.add_mul]
  omega
theorem sumN_eq {f g:Nat→Nat}{n:Nat}(h:∀ k,k<n→f k=g k):sumN f n=sumN g n:=
 Nat.le_antisymm (sumN_le fun k hk=>Nat.le_of_eq (h k hk)) (sumN_le fun k hk=>Nat.le_of_eq (h k hk).symm)
def bitN (b:Bool):Nat:=if b=true then 1 else 0
def highS (s:Span):Nat:=if s.none=true then 0 else (s.hi - s.lo+1).toNat
def highD (d:Res):Nat:=bitN d.null+bitN d.tr+bitN d.fa+d.l.length+highS d.span
def highRow (ds:List Res):Nat:=sumN (fun k=>highD (ds.getD k zeroD)) ds.length
def highP (d:Pd):Nat:=if d.none=true then 0 else 1+(highRow d.vars+sumN (fun k=>highRow (d.row k)) d.fields.length)
def highL (l:List Pd):Nat:=sumN (fun k=>highP (l.getD k nonePd)) l.length
theorem bitN_or (a b:Bool):bitN a≤bitN (a || b):=by cases a<;>cases b<;>decide
theorem bitN_lt {a b:Bool}(h:(!b || a)=false):bitN a<bitN (a || b):=by revert h;cases a<;>cases b<;>decide
theorem bitN_top (a:Bool):bitN a≤1:=by cases a<;>decide
structure Stays (f:Span→Span→Span):Prop extends Puts f where
 stay:∀ s t,checkSpan s=0→checkSpan t=0→inside t s=true→f s t=s
theorem inside_iff {s t:Span}:inside s t=true↔s.none=true∨(t.none=false∧t.lo≤s.lo∧s.hi≤t.hi):=by
 simp[inside,Bool.or_eq_true,Bool.and_eq_true,and_assoc]
theorem stays_both:Stays both:=by
 refine⟨puts_both,fun s t hs ht h=>?_⟩
 obtain⟨-,h2,h3⟩:=checkSpan_zero hs
 obtain⟨-,h5,h6⟩:=checkSpan_zero ht
 obtain⟨sn,sl,sh⟩:=s
 obtain⟨tn,tl,th⟩:=t
 dsimp only at *
 rw[inside_iff]at h
 dsimp only at h
 unfold both
 cases tn with
 | true=>
  obtain⟨rfl,rfl⟩:=h6 rfl
  cases sn with
  | true=>obtain⟨rfl,rfl⟩:=h3 rfl;rfl
  | false=>rfl
 | false=>
  obtain⟨rfl,h7,h8⟩:sn=false∧sl≤tl∧th≤sh:=by simpa using h
  simp only[Bool.false_eq_true,if_false,Span.mk.injEq,true_and]
  omega
theorem stays_wider:Stays wider:=by
 refine⟨puts_wider,fun s t hs ht h=>?_⟩
 have hb:=stays_both.stay s t hs ht h
 unfold wider
 split
 ·exact hb
 ·rename_i hn
  obtain⟨sn,sl,sh⟩:=s
  obtain⟨tn,tl,th⟩:=t
  dsimp only at *
  obtain⟨rfl,rfl⟩:sn=false∧tn=false:=by simpa using hn
  rw[inside_iff]at h
  obtain⟨-,h7,h8⟩:false=false∧sl≤tl∧th≤sh:=by simpa using h
  simp only[Span.mk.injEq,true_and]
  rw[if_neg (by omega),if_neg (by omega)]
  omega
theorem highS_of {s t:Span}(hs:checkSpan s=0) (h:∀ a,inSpan s a=true→inSpan t a=true):highS s≤highS t:=by
 obtain⟨-,h2,-⟩:=checkSpan_zero hs
 unfold highS
 cases hn:s.none with
 | true=>simp
 | false=>
  have h3:=(inSpan_iff t s.lo).1 (h s.lo ((inSpan_iff _ _).2 ⟨hn,Int.le_refl _,h2⟩))
  have h4:=(inSpan_iff t s.hi).1 (h s.hi ((inSpan_iff _ _).2 ⟨hn,h2,Int.le_refl _⟩))
  rw[h3.1]
  simp only[Bool.false_eq_true,if_false]
  omega
theorem highS_lt {f:Span→Span→Span}(hf:Puts f) {s t:Span}(hs:checkSpan s=0) (ht:checkSpan t=0) (h:inside t s=false):highS s<highS (f s t):=by
 obtain⟨-,h2,-⟩:=checkSpan_zero hs
 obtain⟨-,h5,-⟩:=checkSpan_zero ht
 have h6:¬ (t.none=true∨(s.none=false∧s.lo≤t.lo∧t.hi≤s.hi)):=fun e=>by rw[inside_iff.2 e]at h;cases h
 have htn:t.none=false:=by cases e:t.none with
  | false=>rfl
  | true=>exact absurd (.inl e) h6
 have h3:=(inSpan_iff (f s t) t.lo).1 (hf.inr s t t.lo hs ht ((inSpan_iff _ _).2 ⟨htn,Int.le_refl _,h5⟩))
 have h4:=(inSpan_iff (f s t) t.hi).1 (hf.inr s t t.hi hs ht ((inSpan_iff _ _).2 ⟨htn,h5,Int.le_refl _⟩))
 unfold highS
 rw[h3.1]
 simp only[Bool.false_eq_true,if_false]
 cases hn:s.none with
 | true=>simp only[if_true];omega
 | false=>
  have h7:=(inSpan_iff (f s t) s.lo).1 (hf.inl s t s.lo hs ht ((inSpan_iff _ _).2 ⟨hn,Int.le_refl _,h2⟩))
  have h8:=(inSpan_iff (f s t) s.hi).1 (hf.inl s t s.hi hs ht ((inSpan_iff _ _).2 ⟨hn,h2,Int.le_refl _⟩))
  have h9:¬ (s.lo≤t.lo∧t.hi≤s.hi):=fun e=>h6 (.inr ⟨hn,e⟩)
  simp only[Bool.false_eq_true,if_false]
  omega
theorem highS_top {s:Span}(hs:checkSpan s=0):highS s≤4294967296:=by
 obtain⟨⟨e1,e2,e3,e4⟩,h2,-⟩:=checkSpan_zero hs
 unfold highS
 split<;>omega
theorem filter_len {α:Type}{p q:α→Bool}:∀ {l:List α},(∀ x∈l,p x=true→q x=true)→(l.filter p).length≤(l.filter q).length
 | [],_=>Nat.le_refl _
 | x::l,h=>by
  have ih:=filter_len (p:=p) (q:=q) (l:=l) fun y hy=>h y (List.mem_cons_of_mem _ hy)
  have hx:=h x List.mem_cons_self
  rw[List.filter_cons,List.filter_cons]
  cases hp:p x with
  | true=>rw[hx hp];simpa using ih
  | false=>
   cases hq:q x with
   | true=>simp only[Bool.false_eq_true,if_false,if_true,List.length_cons];omega
   | false=>simpa using ih
theorem filter_more {α:Type}{p q:α→Bool}{y:α}(hy1:p y=false) (hy2:q y=true):∀ {l:List α},(∀ x∈l,p x=true→q x=true)→y∈l→(l.filter p).length<(l.filter q).length
 | [],_,hy=>by cases hy
 | x::l,h,hy=>by
  have h0:∀ z∈l,p z=true→q z=true:=fun z hz=>h z (List.mem_cons_of_mem _ hz)
  have hx:=h x List.mem_cons_self
  rw[List.filter_cons,List.filter_cons]
  rcases List.mem_cons.1 hy with rfl|hy
  ·rw[hy1,hy2]
   have:=filter_len h0
   simp only[Bool.false_eq_true,if_false,if_true,List.length_cons]
   omega
  ·have ih:=filter_more hy1 hy2 h0 hy
   cases hp:p x with
   | true=>rw[hx hp];simpa using ih
   | false=>
    cases hq:q x with
    | true=>simp only[Bool.false_eq_true,if_false,if_true,List.length_cons];omega
    | false=>simpa using ih
theorem asc_union {l:List Int}(h:ascS l) (hi:inS l):l=unionS l []:=by rw[← mix_union hi (fun x hx=>by cases hx),mix_nil h]
theorem mix_len {l m:List Int}(h:ascS l) (hl:inS l) (hm:inS m):l.length≤(mixS l m).length∧(lostI m l=true→l.length<(mixS l m).length):=by
 have e1:l.length=(unionS l []).length:=congrArg List.length (asc_union h hl)
 rw[mix_union hl hm,e1]
 have h0:∀ x∈(List.range 60).map (fun k:Nat=>(k:Int)),(hasI l x || hasI [] x)=true→(hasI l x || hasI m x)=true:=fun x _ hx=>by
  rw[Bool.or_eq_true]at hx ⊢
  exact .inl (hx.elim id (fun h=>by rw[hasI_iff]at h;cases h))
 refine⟨filter_len h0,fun hlost=>?_⟩
 obtain⟨k,hk,h2⟩:=anyN_iff.1 (show anyN _ _=true from hlost)
 have h3:m.getD k 0∈m:=getD_mem hk
 have h4:hasI l (m.getD k 0)=false:=by simpa using h2
 have h5:=hm _ h3
 refine filter_more (y:=m.getD k 0) ?_ ?_ h0 ?_
 ·rw[h4,Bool.false_or]
  cases e:hasI [] (m.getD k 0) with
  | false=>rfl
  | true=>rw[hasI_iff]at e;cases e
 ·rw[Bool.or_eq_true];exact .inr (hasI_iff.2 h3)
 ·rw[List.mem_map];exact⟨(m.getD k 0).toNat,List.mem_range.2 (by omega),by omega⟩
theorem mix_in {l m:List Int}(h:ascS l) (hlost:lostI m l=false):mixS l m=l:=by
 refine asc_ext (mix_asc l m).1 h fun x=>?_
 rw[(mix_asc l m).2]
 refine⟨fun hx=>hx.elim id fun hx=>?_,.inl⟩
 obtain⟨k,hk,rfl⟩:=List.mem_iff_getElem.1 hx
 cases e:hasI l (m.getD k 0) with
 | true=>
  have:=hasI_iff.1 e
  rwa [List.getD_eq_getElem?_getD,List.getElem?_eq_getElem hk]at this
 | false=>rw[lostI,anyN_yes hk (by rw[e];rfl)]at hlost;cases hlost
theorem insideD_iff {d e:Res}:insideD e d=true↔(!e.null || d.null)=true∧(!e.tr || d.tr)=true∧(!e.fa || d.fa)=true∧inside e.span d.span=true∧lostI e.l d.l=false:=by
 show ((!e.null || d.null)&&(!e.tr || d.tr)&&(!e.fa || d.fa)&&inside e.span d.span && !lostI e.l d.l)=true↔_
 simp only[Bool.and_eq_true,Bool.not_eq_true',and_assoc]
theorem highD_both {f:Span→Span→Span}(hf:Stays f) {d e:Res}(hd:RightD d) (he:RightD e):highD d≤highD (bothD f d e)∧(insideD e d=false→highD d<highD (bothD f d e))∧(insideD e d=true→bothD f d e=d):=by
 have h1:=bitN_or d.null e.null
 have h2:=bitN_or d.tr e.tr
 have h3:=bitN_or d.fa e.fa
 obtain⟨h4,h4'⟩:=mix_len hd.asc hd.ins he.ins
 have h5:highS d.span≤highS (f d.span e.span):=highS_of hd.span fun a ha=>hf.inl _ _ a hd.span he.span ha
 refine⟨?_,fun hin=>?_,fun hin=>?_⟩
 ·show highD d≤bitN (d.null || e.null)+bitN (d.tr || e.tr)+bitN (d.fa || e.fa)+(mixS d.l e.l).length+highS (f d.span e.span)
  unfold highD
  omega
 ·show highD d<bitN (d.null || e.null)+bitN (d.tr || e.tr)+bitN (d.fa || e.fa)+(mixS d.l e.l).length+highS (f d.span e.span)
  unfold highD
  by_cases g1:(!e.null || d.null)=true
  ·by_cases g2:(!e.tr || d.tr)=true
   ·by_cases g3:(!e.fa || d.fa)=true
    ·by_cases g4:inside e.span d.span=true
     ·by_cases g5:lostI e.l d.l=true
      ·have:=h4' g5;omega
      ·rw[insideD_iff.2 ⟨g1,g2,g3,g4,by simpa using g5⟩]at hin;cases hin
     ·have:=highS_lt hf.toPuts hd.span he.span (by simpa using g4);omega
    ·have:=bitN_lt (a:=d.fa) (b:=e.fa) (by simpa using g3);omega
   ·have:=bitN_lt (a:=d.tr) (b:=e.tr) (by simpa using g2);omega
  ·have:=bitN_lt (a:=d.null) (b:=e.null) (by simpa using g1);omega
 ·obtain⟨g1,g2,g3,g4,g5⟩:=insideD_iff.1 hin
  have e1:=hf.stay _ _ hd.span he.span g4
  have e2:=mix_in hd.asc g5
  have e3:∀ a b:Bool,(!b || a)=true→(a || b)=a:=by decide
  show (⟨d.null || e.null,f d.span e.span,d.tr || e.tr,d.fa || e.fa,mixS d.l e.l⟩:Res)=d
  rw[e1,e2,e3 _ _ g1,e3 _ _ g2,e3 _ _ g3]
theorem highD_top {d:Res}(h:RightD d):highD d≤4294967359:=by
 have h1:=bitN_top d.null
 have h2:=bitN_top d.tr
 have h3:=bitN_top d.fa
 have h4:=h.le
 have h5:=highS_top h.span
 unfold highD
 omega
theorem bothTo_getD (f:Span→Span→Span) (ds es:List Res) {k n:Nat}(hk:k<n):(bothTo f ds es n).getD k zeroD=bothD f (ds.getD k zeroD) (es.getD k zeroD):=bothTo_at f ds es k n hk
theorem equalN_own {a:Nat}(q:Nat→Bool):equalN a a q=!anyN (fun k=>!q k) a:=by simp[equalN]
theorem highRow_both {f:Span→Span→Span}(hf:Stays f) {ds es:List Res}(hn:es.length=ds.length) (hd:∀ k,k<ds.length→RightD (ds.getD k zeroD)) (he:∀ k,k<ds.length→RightD (es.getD k zeroD)):
  highRow ds≤highRow (bothRow f ds es)∧(insideRow es ds=false→highRow ds<highRow (bothRow f ds es))∧(insideRow es ds=true→bothRow f ds es=ds):=by
 have hl:(bothRow f ds es).length=ds.length:=bothTo_len _ _ _ _
 have hr:highRow (bothRow f ds es)=sumN (fun k=>highD (bothD f (ds.getD k zeroD) (es.getD k zeroD))) ds.length:=by
  unfold highRow
  rw[hl]
  exact sumN_eq fun k hk=>by rw[bothTo_getD f ds es hk]
 have h0:∀ k,k<ds.length→highD (ds.getD k zeroD)≤highD (bothD f (ds.getD k zeroD) (es.getD k zeroD)):=fun k hk=>(highD_both hf (hd k hk) (he k hk)).1
 rw[hr]
 refine⟨sumN_le h0,fun hin=>?_,fun hin=>?_⟩
 ·have h1:¬ ∀ k,k<ds.length→insideD (es.getD k zeroD) (ds.getD k zeroD)=true:=fun hall=>by
   unfold insideRow at hin
   rw[hn,equalN_all hall]at hin;cases hin
  obtain⟨j,hj⟩:=Classical.not_forall.1 h1
  obtain⟨hj1,hj2⟩:=Classical.not_imp.1 hj
  exact sumN_lt ((highD_both hf (hd j hj1) (he j hj1)).2.1 (by simpa using hj2)) h0 hj1
 ·unfold insideRow at hin
  rw[hn,equalN_own]at hin
  have h1:∀ k,k<ds.length→insideD (es.getD k zeroD) (ds.getD k zeroD)=true:=fun k hk=>by
   have:=anyN_nay (q:=fun k=>!insideD (es.getD k zeroD) (ds.getD k zeroD)) (by simpa using hin) k hk
   simpa using this
  apply List.ext_getElem hl
  intro k hk1 hk2
  have h2:=bothTo_getD f ds es hk2
  rw[(highD_both hf (hd k hk2) (he k hk2)).2.2 (h1 k hk2)]at h2
  rw[List.getD_eq_getElem?_getD,List.getD_eq_getElem?_getD,List.getElem?_eq_getElem hk2,List.getElem?_eq_getElem (show k<(bothTo f ds es ds.length).length from hk1)]at h2
  simpa using h2
theorem highRow_top {ds:List Res}{n:Nat}(hn:ds.length≤n) (hd:∀ k,k<ds.length→RightD (ds.getD k zeroD)):highRow ds≤n*4294967359:=by
 have h1:=sumN_top (f:=fun k=>highD (ds.getD k zeroD)) (m:=4294967359) (n:=ds.length) fun k hk=>highD_top (hd k hk)
 have h2:ds.length*4294967359≤n*4294967359:=Nat.mul_le_mul_right _ hn
 exact Nat.le_trans h1 h2
theorem highP_raw {p:Pg}{f:Span→Span→Span}(hf:Stays f) {d e:Pd}(hd:RightPd p d) (he:RightPd p e) (hdn:d.none=false) (hen:e.none=false):
  highP d≤highP (bothRaw f d e)∧(insideP e d=false→highP d<highP (bothRaw f d e))∧(insideP e d=true→bothRaw f d e=d):=by
 obtain⟨dn,vs,fs⟩:=d
 obtain⟨en,us,gs⟩:=e
 dsimp only at hdn hen
 subst hdn hen
 have hv1:=hd.vars
 have hv2:=he.vars
 have hf1:=hd.fields
 have hf2:=he.fields
 dsimp only at hv1 hv2 hf1 hf2
 have hfl:gs.length=fs.length:=by omega
 obtain⟨a1,a2,a3⟩:=highRow_both hf (ds:=vs) (es:=us) (by omega) hd.vg (fun k hk=>he.vg k (by show k<us.length;omega))
 have hrow:∀ k,k<fs.length→highRow (fs.getD k [])≤highRow (bothRow f (fs.getD k []) (gs.getD k []))∧(insideRow (gs.getD k []) (fs.getD k [])=false→highRow (fs.getD k [])<highRow (bothRow f (fs.getD k []) (gs.getD k [])))∧(insideRow (gs.getD k []) (fs.getD k [])=true→bothRow f (fs.getD k []) (gs.getD k [])=fs.getD k []):=fun k hk=>by
  have e1:((fs.getD k []).length:Int)=p.fields:=hd.rows k hk
  have e2:((gs.getD k []).length:Int)=p.fields:=he.rows k (by show k<gs.length;omega)
  exact highRow_both hf (by omega) (fun j hj=>hd.fg k j hk hj) (fun j hj=>he.fg k j (by show k<gs.length;omega) (by show j<(gs.getD k []).length;omega))
 have hlen:(bothRows f ⟨false,vs,fs⟩ ⟨false,us,gs⟩ fs.length).length=fs.length:=by simp[bothRows]
 have hsum:sumN (fun k=>highRow ((bothRaw f ⟨false,vs,fs⟩ ⟨false,us,gs⟩).row k)) (bothRaw f ⟨false,vs,fs⟩ ⟨false,us,gs⟩).fields.length=sumN (fun k=>highRow (bothRow f (fs.getD k []) (gs.getD k []))) fs.length:=by
  show sumN (fun k=>highRow ((bothRows f ⟨false,vs,fs⟩ ⟨false,us,gs⟩ fs.length).getD k [])) (bothRows f ⟨false,vs,fs⟩ ⟨false,us,gs⟩ fs.length).length=_
  rw[hlen]
  exact sumN_eq fun k hk=>by rw[bothRows_at _ _ _ _ _ hk]
 have hq:highP (bothRaw f ⟨false,vs,fs⟩ ⟨false,us,gs⟩)=1+(highRow (bothRow f vs us)+sumN (fun k=>highRow (bothRow f (fs.getD k []) (gs.getD k []))) fs.length):=by
  rw[← hsum];rfl
 have hq0:highP ⟨false,vs,fs⟩=1+(highRow vs+sumN (fun k=>highRow (fs.getD k [])) fs.length):=rfl
 rw[hq,hq0]
 have hs:=sumN_le (f:=fun k=>highRow (fs.getD k [])) (g:=fun k=>highRow (bothRow f (fs.getD k []) (gs.getD k []))) (n:=fs.length) fun k hk=>(hrow k hk).1
 have hin:insideP ⟨false,us,gs⟩ ⟨false,vs,fs⟩=(insideRow us vs&&insideRows gs fs):=rfl
 refine⟨by omega,fun h=>?_,fun h=>?_⟩
 ·rw[hin,Bool.and_eq_false_iff]at h
  rcases h with h|h
  ·have:=a2 h;omega
  ·have h1:¬ ∀ k,k<fs.length→insideRow (gs.getD k []) (fs.getD k [])=true:=fun hall=>by
    unfold insideRows at h
    rw[hfl,equalN_all hall]at h;cases h
   obtain⟨j,hj⟩:=Classical.not_forall.1 h1
   obtain⟨hj1,hj2⟩:=Classical.not_imp.1 hj
   have:=sumN_lt (f:=fun k=>highRow (fs.getD k [])) (g:=fun k=>highRow (bothRow f (fs.getD k []) (gs.getD k []))) ((hrow j hj1).2.1 (by simpa using hj2)) (n:=fs.length) (fun k hk=>(hrow k hk).1) hj1
   omega
 ·rw[hin,Bool.and_eq_true]at h
  have h1:=a3 h.1
  have h2:bothRows f ⟨false,vs,fs⟩ ⟨false,us,gs⟩ fs.length=fs:=by
   have h3:=h.2
   unfold insideRows at h3
   rw[hfl,equalN_own]at h3
   have h4:∀ k,k<fs.length→insideRow (gs.getD k []) (fs.getD k [])=true:=fun k hk=>by
    have:=anyN_nay (q:=fun k=>!insideRow (gs.getD k []) (fs.getD k [])) (by simpa using h3) k hk
    simpa using this
   apply List.ext_getElem hlen
   intro k hk1 hk2
   have h5:=bothRows_at f ⟨false,vs,fs⟩ ⟨false,us,gs⟩ k _ hk2
   rw[show bothRow f (Pd.row ⟨false,vs,fs⟩ k) (Pd.row ⟨false,us,gs⟩ k)=fs.getD k [] from (hrow k hk2).2.2 (h4 k hk2)]at h5
   rw[List.getD_eq_getElem?_getD,List.getD_eq_getElem?_getD,List.getElem?_eq_getElem hk2,List.getElem?_eq_getElem hk1]at h5
   simpa using h5
  show (⟨false,bothRow f vs us,bothRows f ⟨false,vs,fs⟩ ⟨false,us,gs⟩ fs.length⟩:Pd)=_
  rw[h1,h2]
theorem highP_both {p:Pg}{is:Nat→Ins}(hp:checkProg p is=0) {f:Span→Span→Span}(hf:Stays f) {d e:Pd}(hd:rightP p is d=0) (he:rightP p is e=0):
  (insideP e d=false→highP d<highP (bothP f d e))∧(insideP e d=true→bothP f d e=d):=by
 rw[bothP_joinP hp hd he]
 unfold joinP
 cases hdn:d.none with
 | true=>
  rw[if_pos rfl]
  have h1:=RightPd.none hd hdn
  have h2:insideP e d=e.none:=by unfold insideP;rw[hdn,Bool.or_true,if_pos rfl]
  rw[h2]
  refine⟨fun h=>?_,fun h=>?_⟩
  ·rw[h1]
   show 0<highP e
   unfold highP
   rw[if_neg (by rw[h];decide)]
   omega
  ·rw[h1];exact RightPd.none he h
 | false=>
  rw[if_neg (by decide)]
  cases hen:e.none with
  | true=>
   have h2:insideP e d=true:=by unfold insideP;rw[hdn,hen];rfl
   rw[if_pos rfl,h2]
   exact⟨fun h=>(by cases h),fun _=>rfl⟩
  | false=>
   rw[if_neg (by decide)]
   exact(highP_raw hf (RightPd.of hd hp hdn) (RightPd.of he hp hen) hdn hen).2
theorem highP_top {p:Pg}{is:Nat→Ins}(hp:checkProg p is=0) {d:Pd}(hd:rightP p is d=0):highP d≤188*4294967359+1:=by
 unfold highP
 cases hdn:d.none with
 | true=>simp
 | false=>
  rw[if_neg (by decide)]
  have h:=RightPd.of hd hp hdn
  have hs:=(prog_right hp).1
  have h1:=hs.v2
  have h2:=hs.n1
  have h3:=hs.f2
  have h4:=h.vars
  have h5:=h.fields
  have a1:=highRow_top (ds:=d.vars) (n:=8) (by omega) h.vg
  have a2:sumN (fun k=>highRow (d.row k)) d.fields.length≤d.fields.length*(3*4294967359):=sumN_top fun k hk=>highRow_top (by have:=h.rows k hk;omega) (fun j hj=>h.fg k j hk hj)
  have a3:d.fields.length*(3*4294967359)≤60*(3*4294967359):=Nat.mul_le_mul_right _ (by omega)
  exact Nat.le_trans (Nat.add_le_add_left (Nat.add_le_add a1 (Nat.le_trans a2 a3)) 1) (by decide)
theorem highL_top {p:Pg}{is:Nat→Ins}(hp:checkProg p is=0) {l:List Pd}(h:PicsOk p is l):highL l≤61*(188*4294967359+1):=by
 have h2:=(prog_right hp).1.n1
 have h3:=h.len
 have a1:=sumN_top (f:=fun k=>highP (l.getD k nonePd)) (m:=188*4294967359+1) (n:=l.length) fun k hk=>highP_top hp (h.r k (by omega))
 have a3:l.length*(188*4294967359+1)≤61*(188*4294967359+1):=Nat.mul_le_mul_right _ (by omega)
 exact Nat.le_trans a1 a3
theorem nxtS_high {p:Pg}{is:Nat→Ins}(hp:checkProg p is=0) {nb:Bool}{i:Nat}{x:Int × Pd}{s:List Pd × Bool}(h:PicsOk p is s.1) (h1:rightP p is x.2=0) (h2:0≤x.1∧x.1≤p.n):
  nxtS nb i x s=s∨((nxtS nb i x s).2=true∧highL s.1<highL (nxtS nb i x s).1):=by
 unfold nxtS
 by_cases hi:insideP x.2 (s.1.getD x.1.toNat nonePd)=true
 ·exact .inl (if_pos hi)
 ·rw[if_neg hi]
  refine .inr ⟨rfl,?_⟩
  have hlen:=h.len
  have hst:Stays (if (nb&&decide (x.1≤i))=true then wider else both):=by
   split
   ·exact stays_wider
   ·exact stays_both
  have hlt:=(highP_both hp hst (h.r x.1.toNat (by omega)) h1).1 (by simpa using hi)
  dsimp only
  generalize bothP (if (nb&&decide (x.1≤i))=true then wider else both) (s.1.getD x.1.toNat nonePd) x.2=r at hlt
  unfold highL
  rw[List.length_set]
  refine sumN_lt (j:=x.1.toNat) ?_ (fun k hk=>?_) (by omega)
  ·rw[getD_set _ _ _ _ _ (by omega),if_pos rfl]
   exact hlt
  ·rw[getD_set _ _ _ _ _ (by omega)]
   split
   ·rename_i e;rw[e];omega
   ·exact Nat.le_refl _
theorem fold_high {p:Pg}{is:Nat→Ins}(hp:checkProg p is=0) {nb:Bool}{i:Nat}:∀ (es:List (Int × Pd)) (s:List Pd × Bool),PicsOk p is s.1→(∀ x∈es,(0≤x.1∧x.1≤p.n)∧rightP p is x.2=0)→
  PicsOk p is (es.foldl (fun s d=>nxtS nb i d s) s).1∧(es.foldl (fun s d=>nxtS nb i d s) s=s∨((es.foldl (fun s d=>nxtS nb i d s) s).2=true∧highL s.1<highL (es.foldl (fun s d=>nxtS nb i d s) s).1))
 | [],s,h,_=>⟨h,.inl rfl⟩
 | x::es,s,h,he=>by
  obtain⟨h2,h1⟩:=he x List.mem_cons_self
  have hk:=PicsOk.next hp (nb:=nb) (i:=i) h h1 h2
  obtain⟨i1,i2⟩:=fold_high hp es (nxtS nb i x s) hk fun y hy=>he y (List.mem_cons_of_mem _ hy)
  rw[List.foldl_cons]
  refine⟨i1,?_⟩
  rcases nxtS_high hp (nb:=nb) (i:=i) h h1 h2 with e|⟨e1,e2⟩
  ·rw[e]at i2 ⊢;exact i2
  ·rcases i2 with e|⟨e3,e4⟩
   ·rw[e];exact .inr ⟨e1,e2⟩
   ·exact .inr ⟨e3,Nat.lt_trans e2 e4⟩
theorem rawD_fits {p:Pg}{is:Nat→Ins}(hp:checkProg p is=0) {d:Pd}(hr:rightP p is d=0) {i:Nat}(hi:i<p.n):∀ x∈(rawD is i d).es,(0≤x.1∧x.1≤p.n)∧rightP p is x.2=0:=by
 intro x hx
 unfold rawD at hx
 by_cases hn:d.none=true
 ·rw[if_pos hn]at hx;cases hx
 ·rw[if_neg hn]at hx
  obtain⟨h1,h2⟩:=stepD_ok hp (OkPd.of hr (by simpa using hn)) hi _ hx
  exact⟨h1,h2.right⟩
theorem round_high {p:Pg}{is:Nat→Ins}(hp:checkProg p is=0) {nb:Bool}{s:List Pd × Bool}(h:PicsOk p is s.1):∀ k,k≤p.n→
  PicsOk p is (allEdges is (nxtS nb) Prod.fst k s).1∧(allEdges is (nxtS nb) Prod.fst k s=s∨((allEdges is (nxtS nb) Prod.fst k s).2=true∧highL s.1<highL (allEdges is (nxtS nb) Prod.fst k s).1))
 | 0,_=>⟨h,.inl rfl⟩
 | k+1,hk=>by
  obtain⟨i1,i2⟩:=round_high hp h k (by omega)
  rw[allEdges_next]
  unfold stepAt edgesOf
  obtain⟨j1,j2⟩:=fold_high hp (nb:=nb) (i:=k) (rawD is k ((allEdges is (nxtS nb) Prod.fst k s).1.getD k nonePd)).es (allEdges is (nxtS nb) Prod.fst k s) i1 (rawD_fits hp (i1.r k (by omega)) (by omega))
  refine⟨j1,?_⟩
  rcases i2 with e|⟨e1,e2⟩
  ·rw[e]at j2 ⊢;exact j2
  ·rcases j2 with e|⟨e3,e4⟩
   ·rw[e];exact .inr ⟨e1,e2⟩
   ·exact .inr ⟨e3,Nat.lt_trans e2 e4⟩
def roundS (is:Nat→Ins) (pn n:Nat) (l:List Pd):List Pd × Bool:=allEdges is (nxtS (decide (3<n))) Prod.fst pn (l,false)
def solN (is:Nat→Ins) (pn:Nat) (l:List Pd):Nat→List Pd
 | 0=>l
 | k+1=>(roundS is pn (k+1) (solN is pn l k)).1
def chgN (is:Nat→Ins) (pn:Nat) (l:List Pd) (k:Nat):Bool:=(roundS is pn (k+1) (solN is pn l k)).2
def EndsN (is:Nat→Ins) (pn:Nat) (l:List Pd) (k:Nat):Prop:=chgN is pn l k=false∧∀ j,j<k→chgN is pn l j=true
theorem EndsN.one {is:Nat→Ins}{pn:Nat}{l:List Pd}{k m:Nat}(h:EndsN is pn l k) (h' : EndsN is pn l m):k=m:=by
 rcases Nat.lt_trichotomy k m with e|e|e
 ·have:=h'.2 k e;rw[h.1]at this;cases this
 ·exact e
 ·have:=h.2 m e;rw[h'.1]at this;cases this
theorem solN_ok {p:Pg}{is:Nat→Ins}(hp:checkProg p is=0) {l:List Pd}(h:PicsOk p is l):∀ k,PicsOk p is (solN is p.n l k)
 | 0=>h
 | k+1=>(round_high hp (nb:=decide (3<k+1)) (s:=(solN is p.n l k,false)) (solN_ok hp h k) p.n (Nat.le_refl _)).1
theorem solN_high {p:Pg}{is:Nat→Ins}(hp:checkProg p is=0) {l:List Pd}(h:PicsOk p is l):∀ k,(∀ j,j<k→chgN is p.n l j=true)→k≤highL (solN is p.n l k)
 | 0,_=>Nat.zero_le _
 | k+1,hc=>by
  have ih:=solN_high hp h k fun j hj=>hc j (by omega)
  have h1:=hc k (by omega)
  rcases (round_high hp (nb:=decide (3<k+1)) (s:=(solN is p.n l k,false)) (solN_ok hp h k) p.n (Nat.le_refl _)).2 with e|⟨_,e⟩
  ·unfold chgN roundS at h1
   rw[e]at h1;cases h1
  ·exact Nat.lt_of_le_of_lt ih e
theorem solN_top {p:Pg}{is:Nat→Ins}(hp:checkProg p is=0) {l:List Pd}(h:PicsOk p is l) {k:Nat}(hc:∀ j,j<k→chgN is p.n l j=true):k≤50000000000000:=
 Nat.le_trans (Nat.le_trans (solN_high hp h k hc) (highL_top hp (solN_ok hp h k))) (by decide)
theorem solN_same {p:Pg}{is:Nat→Ins}(hp:checkProg p is=0) {l:List Pd}(h:PicsOk p is l) {k:Nat}(hc:chgN is p.n l k=false):solN is p.n l (k+1)=solN is p.n l k:=by
 rcases (round_high hp (nb:=decide (3<k+1)) (s:=(solN is p.n l k,false)) (solN_ok hp h k) p.n (Nat.le_refl _)).2 with e|⟨e,_⟩
 ·show (roundS is p.n (k+1) (solN is p.n l k)).1=_
  unfold roundS
  rw[e]
 ·unfold chgN roundS at hc
  rw[e]at hc;cases hc
end Go.Proofs.YtplcndmdkabmeaaGreatDoor
