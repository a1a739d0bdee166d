import Derived.Test.YteoilpcbekijlaaGreatDoorRangeW
import Derived.Test.YteoilpcbekijlaaGreatDoorFoot
import Derived.Test.YteoilpcbekijlaaGreatDoorStpc
import Derived.Test.YteoilpcbekijlaaGreatDoorStepOk
import Derived.RangeFuncNested
import Derived.RangeFuncBound
import Derived.RangeFuncCalls
import Derived.RangeFuncLeaves
import Derived.RangeFuncBox
import Derived.Shelf.Abstract
import Derived.Shelf.RegionOpen
import Derived.WalkKit
import Derived.OwnWalkIn
import Derived.TacticsInMore
import Derived.LoopNIn
import Derived.LoopIn
set_option linter.unusedSimpArgs false
set_option linter.unusedVariables false
set_option maxRecDepth 100000
set_option maxHeartbeats 4000000
namespace Go.Proofs.YteoilpcbekijlaaGreatDoor
open Go.RowKit
open Go.RowKit Go.Shelf
attribute [local go_sem] Oper.semAt_some
theorem PicIs.cells {w w' : World}{x:Pv}{d:Pd}(h:PicIs w x d) (hw:∀ b,IsCells w b→w'.heap[b]? = w.heap[b]?):PicIs w' x d:=
 ⟨h.e,h.vars.on (X:=fun _=>True) (fun _ hx=>absurd trivial hx) (fun b _ hc=>hw b hc),h.fields.on (X:=fun _=>True) (fun _ hx=>absurd trivial hx) (fun b _ hc=>hw b hc),h.m⟩
def NewE (B:Nat) (w:World) (S:Datum):Prop:=∃ X:Nat→Prop,(∀ b,X b→B≤b∧b<w.heap.size)∧On w X S
theorem NewE.at' {B:Nat}{w:World}{S:Datum}(h:NewE B w S):S w:=by
 obtain⟨X,_,hO⟩:=h;exact hO w (fun _ _=>rfl)
theorem NewE.keep {B:Nat}{w w' : World}{S:Datum}(h:NewE B w S) (hk:KeepB B w w'):NewE B w' S:=by
 obtain⟨X,hX,hO⟩:=h
 exact⟨X,fun b hx=>⟨(hX b hx).1,Nat.lt_of_lt_of_le (hX b hx).2 hk.size⟩,fun w2 h2=>hO w2 (fun b hx=>(h2 b hx).trans (hk.same b (hX b hx).1 (hX b hx).2))⟩
theorem Loc.newE {w w' : World}{S:Datum}{L:List LBlk}{D:List Datum}(h:Loc w w' L (S::D)) {B:Nat}(hB:B≤w.heap.size):NewE B w' S:=by
 obtain⟨X,hX,hO⟩:=h.data S List.mem_cons_self
 exact⟨X,fun b hx=>⟨Nat.le_trans hB (hX b hx).1.2,(hX b hx).1.1⟩,hO⟩
structure SolvAt (p:Pg) (is:Nat→Ins) (bs:Nat) (s:Sl) (l:List Pd) (W:World):Prop where
 h:W.heap[bs]? = some (.cells #[.int .i64 p.vars,.int .i64 p.fields,.slice p.pc p.n p.cap,.slice s.p s.n s.cap] 116 (0,0))
 c:CodeAt W p is
 n:s.n=p.n+1
 len:l.length=p.n+1
 x:∃ xs:Nat→Pv,ListC W 3 s.p s.n (fun k=>(xs k).cells)∧∀ k,k<s.n→PicIs W (xs k) (l.getD k nonePd)
 r:∀ k,k≤p.n→rightP p is (l.getD k nonePd)=0
structure EdX where
 i:Nat
 e:EdV
 d:Int × Pd
abbrev EdX.encs (x:EdX):Array Value:=#[.int .i64 x.i,.agg #[.int .i64 x.e.go,.bool x.e.x.none,.slice x.e.x.vars.p x.e.x.vars.n x.e.x.vars.cap,.slice x.e.x.fields.p x.e.x.fields.n x.e.x.fields.cap]]
structure EdOk (p:Pg) (is:Nat→Ins) (x:EdX) (W:World):Prop where
 i:x.i<p.n
 of:∃ d:Pd,rightP p is d=0∧x.d∈(rawD is x.i d).es
 go:x.e.go=x.d.1
 x:PicIs W x.e.x x.d.2
theorem EdOk.abides {p:Pg}{is:Nat→Ins}{x:EdX}{B:Nat}:Abides B (EdOk p is x):=
 ⟨fun _ _ hb h=>⟨h.i,h.of,h.go,h.x.grow hb⟩,fun W r r' hr h=>⟨h.i,h.of,h.go,h.x.cells (fun b ⟨cs,T,f,hc⟩=>World.putObj_heap_other (fun e=>by subst e;rw[hr]at hc;cases hc))⟩⟩
def EdAt {σ:Type}(p:Pg) (is:Nat→Ins) (pics:σ→List Pd) (s:σ) (x:EdX) (W:World):Prop:=EdOk p is x W∧((∀ a b,pics a=pics b)→x.d∈(rawD is x.i ((pics s).getD x.i nonePd)).es)
theorem EdAt.abides {σ:Type}{p:Pg}{is:Nat→Ins}{pics:σ→List Pd}{s:σ}{x:EdX}{B:Nat}:Abides B (EdAt p is pics s x):=
 ⟨fun W W' hb h=>⟨(EdOk.abides (B:=B)).grow W W' hb h.1,h.2⟩,fun W r r' hr h=>⟨(EdOk.abides (B:=B)).turn W r r' hr h.1,h.2⟩⟩
section
variable {σ : Type} (is : Nat → Ins) (nx : Nat → Int × Pd → σ → σ) (pics : σ → List Pd)
def edgesOf (i:Nat) (s:σ):List (Int × Pd):=(rawD is i ((pics s).getD i nonePd)).es
def stepAt (i:Nat) (s:σ):σ:=(edgesOf is pics i s).foldl (fun s d=>nx i d s) s
def allEdges (k:Nat) (s:σ):σ:=(List.range k).foldl (fun s i=>stepAt is nx pics i s) s
theorem allEdges_next (k:Nat) (s:σ):allEdges is nx pics (k+1) s=stepAt is nx pics k (allEdges is nx pics k s):=by
 unfold allEdges
 rw[List.range_succ,List.foldl_append]
 rfl
end
theorem foldl_next {α β:Type}(f:β→α→β) (l:List α) (d:α) (k:Nat) (hk:k<l.length) (s:β):(l.take (k+1)).foldl f s=f ((l.take k).foldl f s) (l.getD k d):=by
 rw[take_next l k d hk,List.foldl_append]
 rfl
def RawR (wq:World) (o:Outs):Value→World→Prop:=fun v w=>∃ s:Sl,v=.tuple #[.slice s.p s.n s.cap,.bool o.wr,.bool o.fl]∧GotEs wq w s o.es
theorem RawR.stable {wq:World}{o:Outs}:Stable (RawR wq o):=by
 rintro v w w' hb ⟨r,h1,h2⟩;exact⟨r,h1,h2.grow hb⟩
def EdsQ (wq:World) (es:List (Int × Pd)):Value→World→Prop:=fun v w=>∃ s:Sl,v=.slice s.p s.n s.cap∧GotEs wq w s es
theorem EdsQ.stable {wq:World}{es:List (Int × Pd)}:Stable (EdsQ wq es):=by
 rintro v w w' hb ⟨r,h1,h2⟩;exact⟨r,h1,h2.grow hb⟩
theorem SolvAt.reads {p:Pg}{is:Nat→Ins}{bs:Nat}{s:Sl}{l:List Pd}{W:World}(h:SolvAt p is bs s l W):ReadsAt Tryz.prog 27 W bs 0 p.v∧ReadsAt Tryz.prog 25 W bs 2 (.slice p.pc p.n p.cap)∧ReadsAt Tryz.prog 64 W bs 3 (.slice s.p s.n s.cap):=by
 have hc:∀ j v,[Value.int .i64 p.vars,.int .i64 p.fields,.slice p.pc p.n p.cap,.slice s.p s.n s.cap][j]? = some v→W.cell? ⟨bs,j,none⟩=some v:=fun j v hj=>by
  have e:W.cell? ⟨bs,j,none⟩=[Value.int .i64 p.vars,.int .i64 p.fields,.slice p.pc p.n p.cap,.slice s.p s.n s.cap][j]? :=by simp[World.cell?,h.h]
  rw[e];exact hj
 refine⟨ReadsAt.agg (l:=[.int .i64 p.vars,.int .i64 p.fields,.slice p.pc p.n p.cap]) tProg (heap_lt h.h) (fun j v hj=>?_) rfl,ReadsAt.cell tInstrs (heap_lt h.h) (hc 2 _ rfl),ReadsAt.cell tPics (heap_lt h.h) (hc 3 _ rfl)⟩
 rw[Nat.zero_add]
 refine hc j v ?_
 have hj3:j<3:=(List.getElem?_eq_some_iff.1 hj).1
 obtain rfl|rfl|rfl:j=0∨j=1∨j=2:=by omega
 all_goals exact hj
theorem edges_in {σ:Type}(p:Pg) (is:Nat→Ins) (hp:checkProg p is=0) (bs:Nat) (s0:Sl) (nx:Nat→Int × Pd→σ→σ) (pics:σ→List Pd) (n B:Nat):
  Yields' Tryz.prog n 63 #[.pointer (some ⟨bs,0,none⟩)] #[] EdX.encs (fun s=>SolvAt p is bs s0 (pics s)) (EdAt p is pics) (fun s x=>nx x.i x.d s) (allEdges is nx pics p.n) B:=by
 intro l J Jx s W hN hg hY hB h0
 refine callsIn_of_wp Tryz.func63 rfl trivial ?_ rfl
 simp only[Tryz.ntmps63,List.size_toArray,List.length_cons,List.length_nil,Nat.reduceAdd,Nat.reduceSub,Array.replicate_succ,Array.replicate_zero,List.push_toArray,List.append_toArray,List.nil_append,List.cons_append]
 have hs:=(prog_right hp).1.n1
 obtain⟨hr1,hr2,hr3⟩:=(hN s W h0).reads
 have hL:=Loc.start W
 have HR2:=Lib.hid hr2
 clear hr1 hr2 hr3
 refine wpIn_seq_k (fun K hK=>?_)
 refine region_in ?hd ?hq ?hw
 case hd=>decide
 case hq=>rintro⟨_,_,⟨v,hv⟩,_⟩;cases hv
 go_wp2_with (first|(with_reducible refine ldB HR2.out hL ?_)|(with_reducible first|refine lld hL ?_|((first|refine lbx hL ?_|refine lal hL ?_|refine lbs hL ?_);clear hL;intro bl w1 hL)|(refine lst' hL ?_;clear hL;intro w1 hL)))
 gi_wp2
 gi_loopw [16] (fun c wz=>∃ i:Nat,c=.int .i64 i∧i≤p.n∧W.heap.size≤wz.heap.size∧J (allEdges is nx pics i s) wz) (fun c _=>p.n+1 - (intOf c).toNat)
 case atStart=>exact⟨0,rfl,Nat.zero_le _,Nat.le_refl _,h0⟩
 case round=>
  obtain⟨i,rfl,hi,hWz,hJz⟩:=hrel
  clear hL HR2
  obtain⟨hr1,hr2,hr3⟩:=(hN _ wr hJz).reads
  clear hr2
  by_cases hlt:i<p.n
  ·have hc:decide ((i:Int)<(p.n:Int))=true:=decide_eq_true (by omega)
   have hS:=hN _ wr hJz
   obtain⟨xs,hxl,hxd⟩:=hS.x
   obtain⟨bx,ox,hpp,hcc⟩:=hxl.ex
   have hin:i<s0.n:=by rw[hS.n];omega
   have hr5:=ReadsAt.agg (P:=Tryz.prog) tPic (hcc i hin).1 (hcc i hin).2 rfl
   rw[hpp (Nat.lt_of_le_of_lt (Nat.zero_le _) hin)]at hr3
   have hrt:=hS.r i hi
   have hrw:=fun w' (hb:Below wr.heap.size wr w')=>raw_any p is (xs i) ((pics (allEdges is nx pics i s)).getD i nonePd) i w' hp (hS.c.grow hb) ((hxd i hin).grow hb) hrt hlt
   have hbp:i<9223372036854775807:=by omega
   have hns:((i:Int)<(s0.n:Int)):=by omega
   have hnx:=allEdges_next is nx pics i s
   unfold stepAt edgesOf at hnx
   generalize hdd:(pics (allEdges is nx pics i s)).getD i nonePd=d at hrw hrt hnx
   generalize hoo:rawD is i d=o at hrw hnx
   have HDD:=Lib.hid hdd
   clear hdd hxl hpp hcc hxd hS
   generalize xs i=x at hr5 hrw
   obtain⟨xn,⟨xp,xvn,xc⟩,⟨xfp,xfn,xfc⟩⟩:=x
   try dsimp only[Pv.v,Pv.cells]at hr5 hrw
   have HR1:=Lib.hid hr1
   have HR3:=Lib.hid hr3
   have HR5:=Lib.hid hr5
   have HRW:=Lib.hid hrw
   have HNX:=Lib.hid hnx
   have HO:=Lib.hid hoo
   have HRT:=Lib.hid hrt
   clear hr1 hr3 hr5 hrw hnx hoo hrt
   obtain⟨wq,hwq⟩:∃ x,x=wr:=⟨_,rfl⟩
   subst hwq
   have hL:=Loc.start wq
   gi_wp2
   refine draw_in ?hd3 ?hq3 ?hw3
   case hd3=>decide
   case hq3=>rintro⟨_,_,⟨v,hv⟩,_⟩;cases hv
   refine draw_beginI [20,21,22,23,24,25,26,27,28,29,30,31,32,19,33,34,35,5,6,7] ?_
   refine dv0 ?_
   refine dv1 0 ?_
   refine dv1 1 ?_
   apply draw_val
   ·intro g w hb y;replace hL:=hL.grow hb;have d2:=yv y 2;clear y;simp only[fillD,fLa,fLb,sTa,sTb];simp only[d2]
    refine loc_loadB HR1.out hL rfl rfl ?_
    exact cY
   simp only[apN,apC]
   refine dv0 ?_
   refine dv0 ?_
   refine dv1 5 ?_
   refine dv1 6 ?_
   apply draw_val
   ·intro g w hb y;replace hL:=hL.grow hb;have d7:=yv y 7;clear y;simp only[fillD,fLa,fLb,sTa,sTb];simp only[d7]
    refine loc_loadB HR3.out hL rfl rfl ?_
    exact cY
   simp only[apN,apC]
   refine dv0 ?_
   refine dv2 8 9 ?_
   apply draw_val
   ·intro g w hb y;replace hL:=hL.grow hb;have d10:=yv y 10;clear y;simp only[fillD,fLa,fLb,sTa,sTb];simp only[d10]
    refine loc_loadB HR5.out hL rfl rfl ?_
    exact cY
   simp only[apN,apC]
   refine draw_next (RawR wq o) RawR.stable ?_ ?_
   ·intro g w hb y;replace hL:=hL.grow hb;have d3:=yv y 3;have d4:=yv y 4;have d11:=yv y 11;clear y;simp only[fillD,fLa,fLb,sTa,sTb];simp only[d3,d4,d11]
    go_wp2_with (go_at_call 60;refine(HRW.out _ hL.below).mono ?_;rintro e w3 ⟨s1,rfl,hG⟩;dsimp only)
    exact⟨rfl,_,rfl,hG.below,s1,rfl,Loc.since hb hG⟩
   simp only[apN,apC]
   refine draw_next (RawR wq o) RawR.stable ?_ ?_
   ·intro g w hb y;replace hL:=hL.grow hb;have d12:(RawR wq o) (g 32) w:=yr y 12;obtain⟨s1,d12,hG⟩:=d12;clear y;simp only[fillD,fLa,fLb,sTa,sTb];simp only[d12]
    go_wp2_with (fail)
    exact⟨rfl,_,rfl,Below.refl _ _,s1,rfl,hG⟩
   simp only[apN,apC]
   refine draw_next (EdsQ wq o.es) EdsQ.stable ?_ ?_
   ·intro g w hb y;replace hL:=hL.grow hb;have d13:(RawR wq o) (g 19) w:=yr y 13;obtain⟨s1,d13,hG⟩:=d13;clear y;simp only[fillD,fLa,fLb,sTa,sTb];simp only[d13]
    go_wp2_with (fail)
    exact⟨rfl,_,rfl,Below.refl _ _,s1,rfl,hG⟩
   simp only[apN,apC]
   apply draw_val
   ·intro g w hb y;replace hL:=hL.grow hb;have d13:(RawR wq o) (g 19) w:=yr y 13;obtain⟨s1,d13,hG⟩:=d13;clear y;simp only[fillD,fLa,fLb,sTa,sTb];simp only[d13]
    go_wp2
    exact cY
   simp only[apN,apC]
   apply draw_val
   ·intro g w hb y;replace hL:=hL.grow hb;have d13:(RawR wq o) (g 19) w:=yr y 13;obtain⟨s1,d13,hG⟩:=d13;clear y;simp only[fillD,fLa,fLb,sTa,sTb];simp only[d13]
    go_wp2
    exact cY
   simp only[apN,apC]
   refine draw_next (EdsQ wq o.es) EdsQ.stable ?_ ?_
   ·intro g w hb y;replace hL:=hL.grow hb;have d14:(EdsQ wq o.es) (g 33) w:=yr y 14;obtain⟨s1,d14,hG⟩:=d14;clear y;simp only[fillD,fLa,fLb,sTa,sTb];simp only[d14]
    go_wp2_with (fail)
    exact⟨rfl,_,rfl,Below.refl _ _,s1,rfl,hG⟩
   simp only[apN,apC]
   refine dv1 15 ?_
   refine dv1 16 ?_
   refine draw_endI hL (by kernel_rfl) (by kernel_rfl) ?_
   intro g w2 hb hR;simp only[List.length_cons,List.length_nil,Nat.reduceAdd]at hR
   have e0:=yv hR 0
   have e1:=yv hR 1
   have e2:=yv hR 2
   have e3:=yv hR 3
   have e4:=yv hR 4
   have e5:=yv hR 5
   have e6:=yv hR 6
   have e7:=yv hR 7
   have e8:=yv hR 8
   have e9:=yv hR 9
   have e10:=yv hR 10
   have e11:=yv hR 11
   have e12:(RawR wq o) (g 32) w2:=yr hR 12
   obtain⟨sz12,e12,-⟩:=e12
   have e13:(RawR wq o) (g 19) w2:=yr hR 13
   obtain⟨sz13,e13,-⟩:=e13
   have e14:(EdsQ wq o.es) (g 33) w2:=yr hR 14
   obtain⟨sz14,e14,-⟩:=e14
   have e15:=yv hR 15
   have e16:=yv hR 16
   have e17:(EdsQ wq o.es) (g 5) w2:=yr hR 17
   obtain⟨⟨sp,sn,sc⟩,e17,hGE⟩:=e17;have hb0:=hb
   have e18:=yv hR 18
   have e19:=yv hR 19
   clear hR;simp only[fillD,fLa,fLb,sTa,sTb]
   simp only[e0,e1,e2,e3,e4,e5,e6,e7,e8,e9,e10,e11,e12,e13,e14,e15,e16,e17,e18,e19]
   clear e0 e1 e2 e3 e4 e5 e6 e7 e8 e9 e10 e11 e12 e13 e14 e15 e16 e17 e18 e19
   replace hL:=hL.grow hb
   clear hb
   clear hL HRW HR1 HR3 HR5
   have hL:=hGE
   clear hGE
   have hJ2:=hg _ wq w2 hb0 hJz
   have hw2:W.heap.size≤w2.heap.size:=Nat.le_trans hWz hb0.size
   have hNE:=hL.newE (Nat.le_trans hB hWz)
   have hsm:=hNE.at'.m
   clear hJz hWz hb0
   go_wp2
   gi_wp2
   gi_loopw [38] (fun c wz=>∃ k:Nat,c=.int .i64 k∧k≤o.es.length∧W.heap.size≤wz.heap.size∧J ((o.es.take k).foldl (fun s d=>nx i d s) (allEdges is nx pics i s)) wz∧NewE B wz (fun w=>EdsIs w ⟨sp,sn,sc⟩ o.es)) (fun c _=>o.es.length+1 - (intOf c).toNat)
   case atStart=>exact⟨0,rfl,Nat.zero_le _,hw2,hJ2,hNE⟩
   case round=>
    obtain⟨k,rfl,hk,hWz,hJz,hNz⟩:=hrel
    clear hL hJ2 hw2 hNE
    have hen:=hNz.at'.n
    dsimp only at hen hsm
    by_cases hlk:k<o.es.length
    ·have hck:decide ((k:Int)<(sn:Int))=true:=decide_eq_true (by omega)
     have hks:k<sn:=by omega
     have hkb:k<9223372036854775807:=by have hmx:maxLen=9223372036854775807:=rfl;omega
     have hle2:k+1≤o.es.length:=hlk
     obtain⟨-,-,evs,hed,hel⟩:=hNz.at'
     obtain⟨be,oe,hpp,hcc⟩:=hel.ex
     dsimp only at hpp
     obtain rfl:=hpp (by omega)
     clear hpp
     have hr6:=ReadsAt.agg (P:=Tryz.prog) tEdge (hcc k hks).1 (hcc k hks).2 rfl
     obtain⟨hgo,hpic⟩:=hed.at' k hlk
     have hmem:o.es.getD k (0,zeroPd)∈o.es:=by
      rw[List.getD_eq_getElem?_getD,List.getElem?_eq_getElem hlk]
      exact List.getElem_mem hlk
     have hnk:=foldl_next (fun s d=>nx i d s) o.es (0,zeroPd) k hlk (allEdges is nx pics i s)
     generalize o.es.getD k (0,zeroPd)=dk at hgo hpic hmem hnk
     generalize evs.getD k zeroE=ek at hr6 hgo hpic
     clear hed hel hcc
     obtain⟨ego,en,⟨ep,evn,ec⟩,⟨efp,efn,efc⟩⟩:=ek
     dsimp only[EdV.cells]at hr6 hgo hpic
     have HR6:=Lib.hid hr6
     have HPC:=Lib.hid hpic
     have HMEM:=Lib.hid hmem
     have HNK:=Lib.hid hnk
     have HGO:=Lib.hid hgo
     clear hr6 hpic hmem hnk hgo hen
     have hL:=Loc.start wr
     iterate 2 gi_step
     refine region_in ?hd5 ?hq5 ?hw5
     case hd5=>decide
     case hq5=>rintro⟨_,_,⟨v,hv⟩,_⟩;cases hv
     go_wp2
     iterate 8 gi_step
     refine region_in ?hd6 ?hq6 ?hw6
     case hd6=>decide
     case hq6=>rintro⟨_,_,⟨v,hv⟩,_⟩;cases hv
     go_wp2_with (first|(with_reducible refine ldB HR6.out hL ?_)|(with_reducible first|refine lld hL ?_|((first|refine lbx hL ?_|refine lal hL ?_|refine lbs hL ?_);clear hL;intro bl w1 hL)|(refine lst' hL ?_;clear hL;intro w1 hL)))
     have hh:=hL.heap cIn
     have hc0:w1.cell? ⟨bl,0,none⟩=some (.int .i64 ego):=by simp[World.cell?,hh]
     have hc1:w1.cell? ⟨bl,1,none⟩=some (.bool en):=by simp[World.cell?,hh]
     have hc2:w1.cell? ⟨bl,2,none⟩=some (.slice ep evn ec):=by simp[World.cell?,hh]
     have hc3:w1.cell? ⟨bl,3,none⟩=some (.slice efp efn efc):=by simp[World.cell?,hh]
     have hJ1:=hg _ wr w1 hL.below hJz
     have hN1:=hNz.keep (KeepB.of (B:=B) hL.below)
     have hw1:W.heap.size≤w1.heap.size:=Nat.le_trans hWz hL.below.size
     have hy0:=hY _ ⟨i,⟨ego,⟨en,⟨ep,evn,ec⟩,⟨efp,efn,efc⟩⟩⟩,dk⟩ w1 hJ1 ⟨⟨hlt,⟨d,HRT.out,by rw[HO.out];exact HMEM.out⟩,HGO.out,HPC.out.grow hL.below⟩,fun hcn=>by rw[hcn _ (allEdges is nx pics i s),HDD.out,HO.out];exact HMEM.out⟩
     dsimp only[EdX.encs]at hy0
     obtain⟨fn,tmps,assign,body,hy,hR⟩:=hy0
     clear hh hL HR6 HPC HMEM HGO hJz hNz hWz hJ1
     gi_wp2
     refine⟨fun h=>(by cases h),hR.mono ?_⟩
     rintro e W3 (⟨rfl,hJ3,hk3⟩|⟨rfl,hJx3⟩)
     ·rw[← HNK.out]at hJ3
      gi_wp2
      go_roundw
      case rel=>exact⟨k+1,by go_num,hlk,Nat.le_trans hw1 hk3.size,hJ3,hN1.keep hk3⟩
      case measure=>simp[intOf];omega
     ·gi_wp2
      refine bodyPost_ret (results_none rfl _ _ _) rfl ?_
      exact⟨⟨_,rfl⟩,.inr hJx3⟩
    ·have hck:decide ((k:Int)<(sn:Int))=false:=decide_eq_false (by omega)
     have hke:k=o.es.length:=by omega
     rw[hke,List.take_length,← HNX.out]at hJz
     obtain rfl:sn=k:=by omega
     clear hen hke hk
     gi_wp2
     go_roundw
     case rel=>exact⟨i+1,by go_num,by omega,hWz,hJz⟩
     case measure=>simp[intOf];omega
  ·have hc:decide ((i:Int)<(p.n:Int))=false:=decide_eq_false (by omega)
   obtain rfl:i=p.n:=by omega
   clear hr1 hr3
   gi_wp2
   go_end0
   exact⟨⟨_,rfl⟩,.inl hJz⟩
end Go.Proofs.YteoilpcbekijlaaGreatDoor
