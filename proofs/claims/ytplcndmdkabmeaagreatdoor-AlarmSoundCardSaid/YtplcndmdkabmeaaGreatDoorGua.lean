import Derived.Test.YtplcndmdkabmeaaGreatDoorCod
import Derived.Test.YtplcndmdkabmeaaGreatDoorSpn
import Derived.Test.YtplcndmdkabmeaaGreatDoorLib
set_option linter.unusedSimpArgs false
set_option linter.unusedVariables false
set_option maxRecDepth 100000
set_option maxHeartbeats 8000000
namespace Go.Proofs.YtplcndmdkabmeaaGreatDoor
open Go.RowKit
structure Gu where
 null:Bool
 span:Span
 tr:Bool
 fa:Bool
 s:Sl
abbrev Gu.cells (g:Gu):List Value:=[.bool g.null,.bool g.span.none,.int .i64 g.span.lo,.int .i64 g.span.hi,.bool g.tr,.bool g.fa,.slice g.s.p g.s.n g.s.cap]
abbrev Gu.v (g:Gu):Value:=.agg #[.bool g.null,.bool g.span.none,.int .i64 g.span.lo,.int .i64 g.span.hi,.bool g.tr,.bool g.fa,.slice g.s.p g.s.n g.s.cap]
abbrev nothingG:Gu:=⟨false,noSpan,false,false,nilSl⟩
def emptyG (g:Gu):Bool:=!g.null&&g.span.none && !g.tr && !g.fa&&(g.s.n:Int)==0
def otherG (g:Gu):Bool:=g.null || g.tr || g.fa || decide (0<g.s.n)
def yesG (g:Gu):Bool:=(!g.span.none && !(g.span.lo==0&&g.span.hi==0)) || g.tr || decide (0<g.s.n)
def noG (g:Gu):Bool:=g.null || g.fa || inSpan g.span 0
theorem nothing_any (w:World):Calls Tryz.prog 136 #[] w fun e w'=>e=.returned nothingG.v∧Below w.heap.size w w':=by
 have hL:=Loc.start w
 go_enter Tryz.func136,Tryz.ntmps136
 go_wp2_with (first|(with_reducible first|refine lld hL ?_|((first|refine lbx hL ?_|refine lal hL ?_|refine lbs hL ?_);clear hL;intro bl w1 hL)|(refine lst' hL ?_;clear hL;intro w1 hL))|(go_at_call 181;refine(none_any _).mono ?_;rintro e w1 ⟨rfl,hb⟩;replace hL:=hL.grow hb;clear hb;dsimp only))
 (try simp only[Exit.inBlock,Exit.then]);refine rt1 ?_
 exact⟨rfl,hL.below⟩
theorem empty_any (g:Gu) (w:World):Calls Tryz.prog 147 #[g.v] w fun e w'=>e=.returned (.bool (emptyG g))∧Below w.heap.size w w':=by
 have hL:=Loc.start w
 go_enter Tryz.func147,Tryz.ntmps147
 go_upto_region 1 with(first|(with_reducible first|refine lld hL ?_|((first|refine lbx hL ?_|refine lal hL ?_|refine lbs hL ?_);clear hL;intro bl w1 hL)|(refine lst' hL ?_;clear hL;intro w1 hL)))
 refine seq_begin [3,4,5,6,7,8,9,10,11,12,13,14,15,16,17,18,19,20,21,22,23,24,25,26,2] ?_
 refine dv0 ?_
 refine dv1 0 ?_
 refine dv1 1 ?_
 refine dv1 2 ?_
 refine dg0 3 ?_
 refine dg1 3 4 ?_
 refine dg1 3 5 ?_
 refine dpa 3 6 ?_
 refine dv1 7 ?_
 refine dg0 8 ?_
 refine dg1 8 9 ?_
 refine dg1 8 10 ?_
 refine dpa 8 11 ?_
 refine dv1 12 ?_
 refine dg0 13 ?_
 refine dg1 13 14 ?_
 refine dg1 13 15 ?_
 refine dpa 13 16 ?_
 refine dv1 17 ?_
 refine dg0 18 ?_
 refine dg1 18 19 ?_
 refine dg1 18 20 ?_
 refine dg1 18 21 ?_
 refine dpa 18 22 ?_
 refine dv1 23 ?_
 refine dns hL ?_
 clear hL;intro w2 hL;simp only[fillX,sTa,sTb]
 go_wp2_with (first|(with_reducible first|refine lld hL ?_|((first|refine lbx hL ?_|refine lal hL ?_|refine lbs hL ?_);clear hL;intro bl w1 hL)|(refine lst' hL ?_;clear hL;intro w1 hL)))
 (try simp only[Exit.inBlock,Exit.then]);refine rt1 ?_
 exact⟨by rfl,hL.below⟩
theorem other_any (g:Gu) (w:World):Calls Tryz.prog 207 #[g.v] w fun e w'=>e=.returned (.bool (otherG g))∧Below w.heap.size w w':=by
 have hL:=Loc.start w
 go_enter Tryz.func207,Tryz.ntmps207
 go_upto_region 1 with(first|(with_reducible first|refine lld hL ?_|((first|refine lbx hL ?_|refine lal hL ?_|refine lbs hL ?_);clear hL;intro bl w1 hL)|(refine lst' hL ?_;clear hL;intro w1 hL)))
 refine seq_begin [3,4,5,6,7,8,9,10,11,12,13,14,15,16,17,18,2] ?_
 refine dv0 ?_
 refine dv1 0 ?_
 refine dv1 1 ?_
 refine dg0 2 ?_
 refine dg1 2 3 ?_
 refine dpo 2 4 ?_
 refine dv1 5 ?_
 refine dg0 6 ?_
 refine dg1 6 7 ?_
 refine dpo 6 8 ?_
 refine dv1 9 ?_
 refine dg0 10 ?_
 refine dg1 10 11 ?_
 refine dg1 10 12 ?_
 refine dg1 10 13 ?_
 refine dpo 10 14 ?_
 refine dv1 15 ?_
 refine dns hL ?_
 clear hL;intro w2 hL;simp only[fillX,sTa,sTb]
 go_wp2_with (first|(with_reducible first|refine lld hL ?_|((first|refine lbx hL ?_|refine lal hL ?_|refine lbs hL ?_);clear hL;intro bl w1 hL)|(refine lst' hL ?_;clear hL;intro w1 hL)))
 (try simp only[Exit.inBlock,Exit.then]);refine rt1 ?_
 exact⟨by rfl,hL.below⟩
def hasI (l:List Int) (v:Int):Bool:=anyN (fun k=>l.getD k 0==v) l.length
theorem hasI_iff {l:List Int}{v:Int}:hasI l v=true↔v∈l:=by
 unfold hasI
 rw[anyN_iff]
 constructor
 ·rintro⟨k,hk,h⟩
  rw[List.getD_eq_getElem?_getD,List.getElem?_eq_getElem hk]at h
  have:l[k]=v:=by simpa using h
  exact this▸List.getElem_mem hk
 ·intro h
  obtain⟨k,hk,h⟩:=List.mem_iff_getElem.1 h
  exact⟨k,hk,by rw[List.getD_eq_getElem?_getD,List.getElem?_eq_getElem hk];simp[h]⟩
theorem indexI_any (s:Sl) (l:List Int) (v:Int) (w:World) (hl:IntsAt w s l):
  Calls Tryz.prog 225 #[s.v,.int .i64 v] w fun e w'=>∃ r:Int,e=.returned (.int .i64 r)∧decide (0≤r)=hasI l v∧Below w.heap.size w w':=by
 obtain⟨b,o,hp,hc⟩:=hl.reads tInt
 have hn:=hl.n
 have hm:=hl.m
 obtain⟨p,n,cap⟩:=s
 dsimp only at hp hc hn hm
 subst hn
 dsimp only[Sl.v]
 have HP:=Lib.hid hp
 have HC:=Lib.hid hc
 clear hp hc hl
 have hL:=Loc.start w
 go_enter Tryz.func225,Tryz.ntmps225
 go_wp2
 go_loopw [8] (fun x wr=>∃ k:Nat,k≤l.length∧x=.int .i64 k∧(∀ j,j<k→(l.getD j 0==v)=false)∧Loc w wr [] []) (fun x _=>l.length - (intOf x).toNat)
 case atStart=>exact⟨0,Nat.zero_le _,rfl,fun j hj=>absurd hj (by omega),hL⟩
 case round=>
  clear hL
  obtain⟨k,hk,rfl,hq,hL⟩:=hrel
  have HQ:=Lib.hid hq
  clear hq
  by_cases hlt:k<l.length
  ·have HPC:=Lib.hid (HP.out (by omega))
   have HR:=Lib.hid (HC.out k hlt)
   generalize hx:l.getD k 0=x at HR
   have HX:=Lib.hid hx
   clear hx
   go_upto_region 4 with(fail)
   refine seq_begin [11,12,13,14,15,16] ?_
   refine dv0 ?_
   refine dv0 ?_
   refine dv0 ?_
   apply draw_val
   ·intro g w hb z;replace hL:=hL.grow hb;have d1:=yv z 1;have d2:=yv z 2;clear z;simp only[fillD,fLa,fLb,sTa,sTb];simp only[d1,d2]
    (simp only[HPC.out];go_wp2)
    exact cY
   simp only[apN,apC]
   apply draw_val
   ·intro g w hb z;replace hL:=hL.grow hb;have d3:=yv z 3;clear z;simp only[fillD,fLa,fLb,sTa,sTb];simp only[d3]
    refine loc_loadB HR.out hL rfl rfl ?_
    exact cY
   simp only[apN,apC]
   refine dv2 0 4 ?_
   refine dns hL ?_
   clear hL;intro w2 hL;simp only[fillX,sTa,sTb]
   by_cases he:x=v
   ·subst he
    have HA:=Lib.hid (show hasI l x=true from anyN_yes hlt (by show (l.getD k 0==x)=true;rw[HX.out];exact beq_self_eq_true x))
    go_wp2
    go_ret
    exact⟨_,rfl,by rw[HA.out];simp,hL.below⟩
   ·have h1:(v==x)=false:=beq_eq_false_iff_ne.2 (fun h=>he h.symm)
    have HE:=Lib.hid he
    clear he
    simp only[h1]
    clear h1
    go_wp2
    go_roundw
    case rel=>
     refine⟨k+1,by omega,by go_num,fun j hj=>?_,hL⟩
     rcases Nat.lt_or_ge j k with h|h
     ·exact HQ.out j h
     ·obtain rfl:j=k:=by omega
      rw[HX.out]
      exact beq_eq_false_iff_ne.2 HE.out
    case measure=>simp[intOf];omega
  ·obtain rfl:k=l.length:=by omega
   have HA:=Lib.hid (show hasI l v=false from anyN_no HQ.out)
   go_wp2
   go_ret
   exact⟨_,rfl,by rw[HA.out];rfl,hL.below⟩
theorem containsI_any (s:Sl) (l:List Int) (v:Int) (w:World) (hl:IntsAt w s l):
  Calls Tryz.prog 183 #[s.v,.int .i64 v] w fun e w'=>e=.returned (.bool (hasI l v))∧Below w.heap.size w w':=by
 have HI:=Lib.hid (indexI_any s l v w hl)
 clear hl
 go_enter Tryz.func183,Tryz.ntmps183
 go_wp2_with (go_at_call 225;refine HI.out.mono ?_;rintro e w1 ⟨r,rfl,hr,hb⟩;dsimp only)
 go_ret
 exact⟨by rw[← hr];rfl,hb⟩
section
variable {P : Program} {ops : Array Oper} {Q : Exit → Act → World → Prop}
variable {t : List Value} {df : List Deferred} {ds : List Nat} {xs : List Yld} {w0 w1 : World} {CL : Array Bool → List LBlk} {D : List Datum} {l : Array Bool} {g : Nat → Value} {w : World} {i : Nat} {o : Oper}
structure InvC (xs:List Yld) (w0:World) (CL:Array Bool→List LBlk) (D:List Datum) (l:Array Bool) (g:Nat→Value) (w:World):Prop where
 loc:Loc w0 w (CL l) D
 vals:∀ e∈xs,lst l e.1=true→g e.2.1=e.2.2
def InvCA (t:List Value) (df:List Deferred) (ds:List Nat) (xs:List Yld) (w0:World) (CL:Array Bool→List LBlk) (D:List Datum) (l:Array Bool) (a:Act) (w:World):Prop:=
 ∃ g,a=⟨(fillD t ds g).toArray,df⟩∧InvC xs w0 CL D l g w
def keysC (ds:List Nat) (xs:List Yld):Bool:=decide (xs.map (·.1)).Nodup&&decide (xs.map (·.2.1)).Nodup&&xs.all (fun e=>ds.contains e.2.1)
theorem inv_valC {d:Nat}{x:Value}(hk:keysC ds xs=true) (hx:(i,d,x)∈xs) (hI:InvC xs w0 CL D l g w) (hcl:CL (l.setIfInBounds i true)=CL l)
  (h:wpList P ops (DrawPost ⟨(fillD t ds g).toArray,df⟩ d w (fun v _=>v=x)) [o] ⟨(fillD t ds g).toArray,df⟩ w):
  wpList P ops (NormalTo (InvCA t df ds xs w0 CL D (l.setIfInBounds i true))) [o] ⟨(fillD t ds g).toArray,df⟩ w:=by
 simp only[keysC,Bool.and_eq_true,decide_eq_true_eq]at hk
 obtain⟨⟨k1,k2⟩,k3⟩:=hk
 have hdd:d∈ds:=by
  have:=List.all_eq_true.1 k3 (i,d,x) hx
  simpa using this
 refine wpList_glue (rest:=[]) (fun _ _ _ h=>by cases h.1) (fun _ _ h=>by cases h.1) (fun a' w' he=>?_) h
 show NormalTo _ .normal a' w'
 obtain⟨_,v,rfl,hb,rfl⟩:=he
 refine⟨rfl,upd g d v,put_fill hdd,by rw[hcl];exact hI.loc.grow hb,fun e he hl=>?_⟩
 by_cases hei:e.1=i
 ·have hee:e=(i,d,v):=nodup_map_inj k1 e he _ hx hei
  subst hee
  simp[upd]
 ·rw[lst_set_ne hei]at hl
  have hne:e.2.1≠d:=fun hd=>by
   have hee:e=(i,d,v):=nodup_map_inj k2 e he _ hx hd
   exact hei (congrArg Prod.fst hee)
  simp only[upd,if_neg hne]
  exact hI.vals e he hl
theorem inv_stC (hI:InvC xs w0 CL D l g w) (hne:xs.all (fun e=>!(e.1==i))=true) {w' : World}{L:List LBlk}(hL:Loc w0 w' L D) (hcl:CL (l.setIfInBounds i true)=L):
  wpList P ops (NormalTo (InvCA t df ds xs w0 CL D (l.setIfInBounds i true))) [] ⟨(fillD t ds g).toArray,df⟩ w':=by
 show NormalTo _ .normal _ _
 refine⟨rfl,g,rfl,by rw[hcl];exact hL,fun e he hl=>?_⟩
 have h1:=List.all_eq_true.1 hne e he
 have hei:e.1≠i:=by simpa using h1
 rw[lst_set_ne hei]at hl
 exact hI.vals e he hl
theorem inv_stD (hI:InvC xs w0 CL D l g w) (hne:xs.all (fun e=>!(e.1==i))=true) {L:List LBlk}(hcl:CL (l.setIfInBounds i true)=L)
  (h:wpList P ops (fun e a' w'=>e=.normal∧a'=⟨(fillD t ds g).toArray,df⟩∧Loc w0 w' L D) [o] ⟨(fillD t ds g).toArray,df⟩ w):
  wpList P ops (NormalTo (InvCA t df ds xs w0 CL D (l.setIfInBounds i true))) [o] ⟨(fillD t ds g).toArray,df⟩ w:=by
 refine wpList_glue (rest:=[]) (fun _ _ _ h=>by cases h.1) (fun _ _ h=>by cases h.1) (fun a' w' he=>?_) h
 obtain⟨_,rfl,hL⟩:=he
 exact inv_stC hI hne hL hcl
def StepC (P:Program) (ops:Array Oper) (t:List Value) (df:List Deferred) (ds:List Nat) (xs:List Yld) (w0:World) (CL:Array Bool→List LBlk) (D:List Datum) (i:Nat) (o:Oper):Prop:=
 ∀ l g w,i<l.size→InvC xs w0 CL D l g w→(∀ j∈depsOf o,lst l j=true)→
  wpList P ops (NormalTo (InvCA t df ds xs w0 CL D (l.setIfInBounds i true))) [o] ⟨(fillD t ds g).toArray,df⟩ w
theorem draw_cells {id:Nat}{l0:List Oper}(ds:List Nat) (xs:List Yld) (CL:Array Bool→List LBlk) (hm:P.follows .mixedOrders=true) (hord:Region.orderB l0.toArray=true) (h0:Loc w0 w1 (CL (Array.replicate l0.toArray.size false)) D)
  (hsteps:StepsFrom (StepC P l0.toArray t df ds xs w0 CL D) 0 l0)
  (hfin:∀ g w l,(∀ i,i<l0.length→lst l i=true)→Loc w0 w (CL l) D→(∀ e∈xs,e.1<l0.length→g e.2.1=e.2.2)→wpList P l0.toArray Q [] ⟨(fillD t ds g).toArray,df⟩ w):
  (Code.region id l0.toArray true).wp P Q ⟨t.toArray,df⟩ w1:=by
 refine draw_inv (Inv:=InvCA t df ds xs w0 CL D) hm hord ?_ ?_ ?_
 ·refine⟨fun d=>t.getD d undef,by rw[fillD_self],h0.drew,fun e _ hl=>?_⟩
  unfold lst at hl;rw[getD_replicate_false]at hl;cases hl
 ·intro i o hi l a w inv hA hun z
  obtain⟨g,rfl,hI⟩:=hA
  have hi' : i<l0.toArray.size:=(Array.getElem?_eq_some_iff.1 hi).1
  have:=steps_get (K:=StepC P l0.toArray t df ds xs w0 CL D) (k:=0) (i:=i) (o:=o) hsteps (by simpa using hi)
  rw[Nat.zero_add]at this
  exact this l g w (by rw[inv.size];exact hi') hI z
 ·intro l a w hA hall
  obtain⟨g,rfl,hI⟩:=hA
  have hall' : ∀ i,i<l0.length→lst l i=true:=fun i hi=>hall i (by simpa using hi)
  exact hfin g w l hall' hI.loc (fun e he hi=>hI.vals e he (hall' _ hi))
theorem lst_rep (n k:Nat):lst (Array.replicate n false) k=false:=getD_replicate_false _ _
end
end Go.Proofs.YtplcndmdkabmeaaGreatDoor
namespace Go.Proofs.YtplcndmdkabmeaaGreatDoor
open Go.RowKit
theorem neq_span (a b:Span) (w:World):(binOp .neq 106 (.agg #[.bool a.none,.int .i64 a.lo,.int .i64 a.hi]) (.agg #[.bool b.none,.int .i64 b.lo,.int .i64 b.hi])).run Tryz.prog w=.ok (.bool (!(a.none==b.none&&a.lo==b.lo&&a.hi==b.hi))) w:=by
 cases h1:(a.none==b.none)<;>cases h2:(a.lo==b.lo)<;>cases h3:(a.hi==b.hi)
 all_goals
  go_simp
  try simp_all
theorem neq_guardS (x y:Operand) (a b:Span) (w:World):(eqGuard .neq 106 x y (.agg #[.bool a.none,.int .i64 a.lo,.int .i64 a.hi]) (.agg #[.bool b.none,.int .i64 b.lo,.int .i64 b.hi])).run Tryz.prog w=.ok () w:=by
 go_simp
theorem wp_neq_span {ops:Array Oper}{Q:Exit→Act→World→Prop}{act:Act}{w:World}{rest:List Oper}{d:Option Tmp}{ty u:TypeId}{pos:String}{after:Array Edge}{x y:Operand}{a b:Span}{r:Bool}(ha:act.eval x=a.v) (hb:act.eval y=b.v) (hr:(!(a.none==b.none&&a.lo==b.lo&&a.hi==b.hi))=r)
  (h:wpList Tryz.prog ops Q rest (act.put d (.bool r)) w):wpList Tryz.prog ops Q (⟨d,.binOp .neq 106 x y u,ty,pos,after,none⟩::rest) act w:=by
 subst hr
 refine wp_bin (w':=w) ?_ ?_ h
 ·rw[ha,hb];exact neq_guardS x y a b w
 ·rw[ha,hb];exact neq_span a b w
theorem ret_two {a b c d:Bool}(h1:a=c) (h2:b=d):Ending.returned (.tuple #[.bool a,.bool b])=.returned (.tuple #[.bool c,.bool d]):=by rw[h1,h2]
theorem gcounts_any (g:Gu) (w:World):Calls Tryz.prog 158 #[g.v] w fun e w'=>e=.returned (.tuple #[.bool (yesG g),.bool (noG g)])∧Below w.heap.size w w':=by
 obtain⟨nl,⟨sn,slo,shi⟩,tr,fa,⟨sp,sc,scap⟩⟩:=g
 have hL:=Loc.start w
 go_enter Tryz.func158,Tryz.ntmps158
 go_upto_region 2 with(first|(with_reducible first|refine lld hL ?_|((first|refine lbx hL ?_|refine lal hL ?_|refine lbs hL ?_);clear hL;intro bl w1 hL)|(refine lst' hL ?_;clear hL;intro w1 hL))|(go_at_call 182;refine(in_any ⟨sn,slo,shi⟩ 0 _).mono ?_;rintro e w1 ⟨rfl,hb⟩;replace hL:=hL.grow hb;clear hb;dsimp only))
 refine draw_begin [9,10,11,12,13,14,15,16,17,18,5] ?_
 refine dv0 ?_
 refine dv1 0 ?_
 refine dv1 1 ?_
 refine dv1 2 ?_
 refine dv1 3 ?_
 refine dg0 4 ?_
 refine dg1 4 5 ?_
 refine' draw_guard (j:=4) rfl rfl rfl (by decide) (by simp) ?_ ?_;rotate_left
 ·intro hcs;simp only[Bool.and_eq_true,beqT,beqF]at hcs;intro g w hb z;replace hL:=hL.grow hb;clear z;simp only[fillD,fLa,fLb,sTa,sTb]
  go_wp2_with (go_at_call 106;refine(of_any _ _ _).mono ?_;rintro e w3 ⟨rfl,hb3⟩;dsimp only)
  exact⟨rfl,_,rfl,(by assumption),rfl⟩
 simp only[apN,apC]
 refine' draw_guard (j:=4) rfl rfl rfl (by decide) (by simp) ?_ ?_;rotate_left
 ·intro hcs;simp only[Bool.and_eq_true,beqT,beqF]at hcs;intro g w hb z;replace hL:=hL.grow hb;have d6:=yv z 6;simp only[hcs,beq_self_eq_true,Bool.and_self,Bool.true_and,Bool.and_true,cnd_true]at d6;have d7:=yv z 7;simp only[hcs,beq_self_eq_true,Bool.and_self,Bool.true_and,Bool.and_true,cnd_true]at d7;clear z;simp only[fillD,fLa,fLb,sTa,sTb];simp only[d6,d7]
  refine wp_neq_span (a:=⟨sn,slo,shi⟩) (b:=⟨false,0,0⟩) rfl rfl rfl ?_;go_wp2
  exact cY
 simp only[apN,apC]
 refine dpa 4 8 ?_
 refine dv1 9 ?_
 refine dnd hL ?_
 clear hL;intro w2 hL;simp only[fillX,sTa,sTb]
 go_upto_region 3 with(first|(with_reducible first|refine lld hL ?_|((first|refine lbx hL ?_|refine lal hL ?_|refine lbs hL ?_);clear hL;intro bl w1 hL)|(refine lst' hL ?_;clear hL;intro w1 hL)))
 refine seq_begin [19,20,21,22,23,24,25,26,27,28,29,30,31,32,33,34,35,36,37,38,2,3] ?_
 refine dv0 ?_
 refine dv1 0 ?_
 refine dg0 1 ?_
 refine dg1 1 2 ?_
 refine dpo 1 3 ?_
 refine dv1 4 ?_
 refine dg0 5 ?_
 refine dg1 5 6 ?_
 refine dg1 5 7 ?_
 refine dg1 5 8 ?_
 refine dpo 5 9 ?_
 refine dv0 ?_
 refine dv1 11 ?_
 refine dv1 12 ?_
 refine dg0 13 ?_
 refine dg1 13 14 ?_
 refine dpo 13 15 ?_
 refine dv1 16 ?_
 refine dg0 17 ?_
 refine dpo 17 18 ?_
 refine dv1 10 ?_
 refine dv1 19 ?_
 refine dns hL ?_
 clear hL;intro w2 hL;simp only[fillX,sTa,sTb]
 go_wp2_with (first|(with_reducible first|refine lld hL ?_|((first|refine lbx hL ?_|refine lal hL ?_|refine lbs hL ?_);clear hL;intro bl w1 hL)|(refine lst' hL ?_;clear hL;intro w1 hL)))
 (try simp only[Exit.inBlock,Exit.then]);refine rt2 ?_
 refine⟨ret_two ?_ ?_,hL.below⟩
 ·cases sn<;>simp[yesG]
 ·simp[noG]
theorem truths_any (a b:Bool) (w:World):Calls Tryz.prog 204 #[.bool a,.bool b] w fun e w'=>e=.returned (Gu.v ⟨false,noSpan,a,b,nilSl⟩)∧Below w.heap.size w w':=by
 have hL:=Loc.start w
 go_enter Tryz.func204,Tryz.ntmps204
 go_wp2_with (first|(with_reducible first|refine lld hL ?_|((first|refine lbx hL ?_|refine lal hL ?_|refine lbs hL ?_);clear hL;intro bl w1 hL)|(refine lst' hL ?_;clear hL;intro w1 hL))|(go_at_call 136;refine(nothing_any _).mono ?_;rintro e w1 ⟨rfl,hb⟩;replace hL:=hL.grow hb;clear hb;dsimp only))
 (try simp only[Exit.inBlock,Exit.then]);refine rt1 ?_
 exact⟨rfl,hL.below⟩
theorem two_nil (k:Int) (g h:Gu) (hn:(g.span.none || h.span.none)=true) (w:World):Calls Tryz.prog 206 #[.int .i64 k,g.v,h.v] w fun e w'=>e=.returned nothingG.v∧Below w.heap.size w w':=by
 have hL:=Loc.start w
 go_enter Tryz.func206,Tryz.ntmps206
 go_upto_region 3 with(first|(with_reducible first|refine lld hL ?_|((first|refine lbx hL ?_|refine lal hL ?_|refine lbs hL ?_);clear hL;intro bl w1 hL)|(refine lst' hL ?_;clear hL;intro w1 hL))|(go_at_call 136;refine(nothing_any _).mono ?_;rintro e w1 ⟨rfl,hb⟩;replace hL:=hL.grow hb;clear hb;dsimp only))
 refine seq_begin [17,18,19,20,21,22,23,24,16] ?_
 refine dv0 ?_
 refine dv1 0 ?_
 refine dv1 1 ?_
 refine dv1 2 ?_
 refine dg0 3 ?_
 refine dg1 3 4 ?_
 refine dg1 3 5 ?_
 refine dpo 3 6 ?_
 refine dv1 7 ?_
 refine dns hL ?_
 clear hL;intro w2 hL;simp only[fillX,sTa,sTb]
 simp only[hn]
 go_wp2_with (first|(with_reducible first|refine lld hL ?_|((first|refine lbx hL ?_|refine lal hL ?_|refine lbs hL ?_);clear hL;intro bl w1 hL)|(refine lst' hL ?_;clear hL;intro w1 hL)))
 (try simp only[Exit.inBlock,Exit.then]);refine rt1 ?_
 exact⟨rfl,hL.below⟩
theorem two_made (k:Int) (hk:k=5∨k=6∨k=7) (g h:Gu) (h1:Ends g.span) (h2:Ends h.span) (hn:(g.span.none || h.span.none)=false) (w:World):Calls Tryz.prog 206 #[.int .i64 k,g.v,h.v] w fun e w'=>e=.returned (Gu.v ⟨false,made k g.span h.span,false,false,nilSl⟩)∧Below w.heap.size w w':=by
 have HM:=Lib.hid (fun w'=>made_any k hk g.span h.span h1 h2 w')
 have hk8:(k==8)=false:=beq_eq_false_iff_ne.2 (by omega)
 clear hk h1 h2
 have hL:=Loc.start w
 go_enter Tryz.func206,Tryz.ntmps206
 go_upto_region 3 with(first|(with_reducible first|refine lld hL ?_|((first|refine lbx hL ?_|refine lal hL ?_|refine lbs hL ?_);clear hL;intro bl w1 hL)|(refine lst' hL ?_;clear hL;intro w1 hL))|(go_at_call 136;refine(nothing_any _).mono ?_;rintro e w1 ⟨rfl,hb⟩;replace hL:=hL.grow hb;clear hb;dsimp only))
 refine seq_begin [17,18,19,20,21,22,23,24,16] ?_
 refine dv0 ?_
 refine dv1 0 ?_
 refine dv1 1 ?_
 refine dv1 2 ?_
 refine dg0 3 ?_
 refine dg1 3 4 ?_
 refine dg1 3 5 ?_
 refine dpo 3 6 ?_
 refine dv1 7 ?_
 refine dns hL ?_
 clear hL;intro w2 hL;simp only[fillX,sTa,sTb]
 simp only[hn]
 go_wp2_with (first|(with_reducible first|refine lld hL ?_|((first|refine lbx hL ?_|refine lal hL ?_|refine lbs hL ?_);clear hL;intro bl w1 hL)|(refine lst' hL ?_;clear hL;intro w1 hL))|(go_at_call 234;refine(HM.out _).mono ?_;rintro e w1 ⟨rfl,hb⟩;replace hL:=hL.grow hb;clear hb;dsimp only))
 (try simp only[Exit.inBlock,Exit.then]);refine rt1 ?_
 exact⟨rfl,hL.below⟩
theorem two_less (g h:Gu) (hn:(g.span.none || h.span.none)=false) (w:World):Calls Tryz.prog 206 #[.int .i64 8,g.v,h.v] w fun e w'=>e=.returned (Gu.v ⟨false,noSpan,decide (g.span.lo<h.span.hi),decide (h.span.lo≤g.span.hi),nilSl⟩)∧Below w.heap.size w w':=by
 obtain⟨nl,⟨gn,glo,ghi⟩,gt,gf,⟨gp,gc,gcap⟩⟩:=g
 obtain⟨hl,⟨hn',hlo,hhi⟩,ht,hf,⟨hp,hc,hcap⟩⟩:=h
 obtain⟨rfl,rfl⟩:gn=false∧hn'=false:=by simpa using hn
 clear hn
 have hL:=Loc.start w
 go_enter Tryz.func206,Tryz.ntmps206
 go_step
 go_step
 go_step
 ((with_reducible refine lbx hL ?_);clear hL;intro b4 w1 hL)
 ((with_reducible refine lbx hL ?_);clear hL;intro b5 w1 hL)
 ((with_reducible refine lal hL ?_);clear hL;intro b6 w1 hL)
 go_upto_region 1 with(first|(with_reducible first|refine lld hL ?_|((first|refine lbx hL ?_|refine lal hL ?_|refine lbs hL ?_);clear hL;intro bl w1 hL)|(refine lst' hL ?_;clear hL;intro w1 hL)))
 go_upto_region 3 with(first|((with_reducible refine lal hL ?_);clear hL;intro b7 w1 hL)|(with_reducible first|refine lld hL ?_|((first|refine lbx hL ?_|refine lal hL ?_|refine lbs hL ?_);clear hL;intro bl w1 hL)|(refine lst' hL ?_;clear hL;intro w1 hL))|(go_at_call 136;refine(nothing_any _).mono ?_;rintro e w1 ⟨rfl,hb⟩;replace hL:=hL.grow hb;clear hb;dsimp only))
 go_upto_region 5 with(first|(with_reducible first|refine lld hL ?_|((first|refine lbx hL ?_|refine lal hL ?_|refine lbs hL ?_);clear hL;intro bl w1 hL)|(refine lst' hL ?_;clear hL;intro w1 hL)))
 have h0:=hL.conv (L':=(fun l=>[(b7,108,[.bool false,.bool true,.int .i64 0,.int .i64 0,bif lst l 15 then .bool (decide (glo<hhi)) else .bool false,bif lst l 17 then .bool (decide (hlo≤ghi)) else .bool false,.slice none 0 0]),(b6,108,[.bool false,.bool false,.int .i64 0,.int .i64 0,.bool false,.bool false,.slice none 0 0]),(b5,108,[.bool hl,.bool false,.int .i64 hlo,.int .i64 hhi,.bool ht,.bool hf,.slice hp hc hcap]),(b4,108,[.bool nl,.bool false,.int .i64 glo,.int .i64 ghi,.bool gt,.bool gf,.slice gp gc gcap])]) (Array.replicate 18 false)) (by simp only[lst_rep,cond_false])
 refine draw_cells (w0:=_) [28,29,30,31,32,33,34,35,36,37,38,39,40,41,42,43] [(0,28,.pointer (some ⟨b4,1,none⟩)),(1,29,.pointer (some ⟨b4,2,none⟩)),(2,30,.int .i64 glo),(3,31,.pointer (some ⟨b5,1,none⟩)),(4,32,.pointer (some ⟨b5,3,none⟩)),(5,33,.int .i64 hhi),(6,34,.bool (decide (glo<hhi))),(7,35,.pointer (some ⟨b4,1,none⟩)),(8,36,.pointer (some ⟨b4,3,none⟩)),(9,37,.int .i64 ghi),(10,38,.pointer (some ⟨b5,1,none⟩)),(11,39,.pointer (some ⟨b5,2,none⟩)),(12,40,.int .i64 hlo),(13,41,.bool (decide (hlo≤ghi))),(14,42,.pointer (some ⟨b7,4,none⟩)),(16,43,.pointer (some ⟨b7,5,none⟩))] (fun l=>[(b7,108,[.bool false,.bool true,.int .i64 0,.int .i64 0,bif lst l 15 then .bool (decide (glo<hhi)) else .bool false,bif lst l 17 then .bool (decide (hlo≤ghi)) else .bool false,.slice none 0 0]),(b6,108,[.bool false,.bool false,.int .i64 0,.int .i64 0,.bool false,.bool false,.slice none 0 0]),(b5,108,[.bool hl,.bool false,.int .i64 hlo,.int .i64 hhi,.bool ht,.bool hf,.slice hp hc hcap]),(b4,108,[.bool nl,.bool false,.int .i64 glo,.int .i64 ghi,.bool gt,.bool gf,.slice gp gc gcap])]) (by kernel_rfl) (by kernel_rfl) h0 ⟨?_,?_,?_,?_,?_,?_,?_,?_,?_,?_,?_,?_,?_,?_,?_,?_,?_,?_,trivial⟩ ?_
 all_goals clear hL h0
 ·intro l g w hi hI z
  have hL:=hI.loc
  try dsimp only at hL
  refine inv_valC (d:=28) (x:=.pointer (some ⟨b4,1,none⟩)) (by kernel_rfl) cMm hI (by simp only[lst_set_ne (show (15:Nat)≠0 by decide),lst_set_ne (show (17:Nat)≠0 by decide)]) ?_
  clear z
  simp only[fillD,fLa,fLb,sTa,sTb]
  go_wp2
  exact cY
 ·intro l g w hi hI z
  have hL:=hI.loc
  try dsimp only at hL
  have d0:=hI.vals (0,28,.pointer (some ⟨b4,1,none⟩)) cMm (z 0 (by decide))
  try dsimp only at d0
  refine inv_valC (d:=29) (x:=.pointer (some ⟨b4,2,none⟩)) (by kernel_rfl) cMm hI (by simp only[lst_set_ne (show (15:Nat)≠1 by decide),lst_set_ne (show (17:Nat)≠1 by decide)]) ?_
  clear z
  simp only[fillD,fLa,fLb,sTa,sTb]
  simp only[d0]
  go_wp2
  exact cY
 ·intro l g w hi hI z
  have hL:=hI.loc
  try dsimp only at hL
  have d1:=hI.vals (1,29,.pointer (some ⟨b4,2,none⟩)) cMm (z 1 (by decide))
  try dsimp only at d1
  refine inv_valC (d:=30) (x:=.int .i64 glo) (by kernel_rfl) cMm hI (by simp only[lst_set_ne (show (15:Nat)≠2 by decide),lst_set_ne (show (17:Nat)≠2 by decide)]) ?_
  clear z
  simp only[fillD,fLa,fLb,sTa,sTb]
  simp only[d1]
  go_wp2_with (first|(with_reducible refine lld hL ?_)|(with_reducible refine ldD hL ?_))
  exact cY
 ·intro l g w hi hI z
  have hL:=hI.loc
  try dsimp only at hL
  refine inv_valC (d:=31) (x:=.pointer (some ⟨b5,1,none⟩)) (by kernel_rfl) cMm hI (by simp only[lst_set_ne (show (15:Nat)≠3 by decide),lst_set_ne (show (17:Nat)≠3 by decide)]) ?_
  clear z
  simp only[fillD,fLa,fLb,sTa,sTb]
  go_wp2
  exact cY
 ·intro l g w hi hI z
  have hL:=hI.loc
  try dsimp only at hL
  have d3:=hI.vals (3,31,.pointer (some ⟨b5,1,none⟩)) cMm (z 3 (by decide))
  try dsimp only at d3
  refine inv_valC (d:=32) (x:=.pointer (some ⟨b5,3,none⟩)) (by kernel_rfl) cMm hI (by simp only[lst_set_ne (show (15:Nat)≠4 by decide),lst_set_ne (show (17:Nat)≠4 by decide)]) ?_
  clear z
  simp only[fillD,fLa,fLb,sTa,sTb]
  simp only[d3]
  go_wp2
  exact cY
 ·intro l g w hi hI z
  have hL:=hI.loc
  try dsimp only at hL
  have d4:=hI.vals (4,32,.pointer (some ⟨b5,3,none⟩)) cMm (z 4 (by decide))
  try dsimp only at d4
  refine inv_valC (d:=33) (x:=.int .i64 hhi) (by kernel_rfl) cMm hI (by simp only[lst_set_ne (show (15:Nat)≠5 by decide),lst_set_ne (show (17:Nat)≠5 by decide)]) ?_
  clear z
  simp only[fillD,fLa,fLb,sTa,sTb]
  simp only[d4]
  go_wp2_with (first|(with_reducible refine lld hL ?_)|(with_reducible refine ldD hL ?_))
  exact cY
 ·intro l g w hi hI z
  have hL:=hI.loc
  try dsimp only at hL
  have d2:=hI.vals (2,30,.int .i64 glo) cMm (z 2 (by decide))
  try dsimp only at d2
  have d5:=hI.vals (5,33,.int .i64 hhi) cMm (z 5 (by decide))
  try dsimp only at d5
  refine inv_valC (d:=34) (x:=.bool (decide (glo<hhi))) (by kernel_rfl) cMm hI (by simp only[lst_set_ne (show (15:Nat)≠6 by decide),lst_set_ne (show (17:Nat)≠6 by decide)]) ?_
  clear z
  simp only[fillD,fLa,fLb,sTa,sTb]
  simp only[d2,d5]
  go_wp2
  exact cY
 ·intro l g w hi hI z
  have hL:=hI.loc
  try dsimp only at hL
  refine inv_valC (d:=35) (x:=.pointer (some ⟨b4,1,none⟩)) (by kernel_rfl) cMm hI (by simp only[lst_set_ne (show (15:Nat)≠7 by decide),lst_set_ne (show (17:Nat)≠7 by decide)]) ?_
  clear z
  simp only[fillD,fLa,fLb,sTa,sTb]
  go_wp2
  exact cY
 ·intro l g w hi hI z
  have hL:=hI.loc
  try dsimp only at hL
  have d7:=hI.vals (7,35,.pointer (some ⟨b4,1,none⟩)) cMm (z 7 (by decide))
  try dsimp only at d7
  refine inv_valC (d:=36) (x:=.pointer (some ⟨b4,3,none⟩)) (by kernel_rfl) cMm hI (by simp only[lst_set_ne (show (15:Nat)≠8 by decide),lst_set_ne (show (17:Nat)≠8 by decide)]) ?_
  clear z
  simp only[fillD,fLa,fLb,sTa,sTb]
  simp only[d7]
  go_wp2
  exact cY
 ·intro l g w hi hI z
  have hL:=hI.loc
  try dsimp only at hL
  have d8:=hI.vals (8,36,.pointer (some ⟨b4,3,none⟩)) cMm (z 8 (by decide))
  try dsimp only at d8
  refine inv_valC (d:=37) (x:=.int .i64 ghi) (by kernel_rfl) cMm hI (by simp only[lst_set_ne (show (15:Nat)≠9 by decide),lst_set_ne (show (17:Nat)≠9 by decide)]) ?_
  clear z
  simp only[fillD,fLa,fLb,sTa,sTb]
  simp only[d8]
  go_wp2_with (first|(with_reducible refine lld hL ?_)|(with_reducible refine ldD hL ?_))
  exact cY
 ·intro l g w hi hI z
  have hL:=hI.loc
  try dsimp only at hL
  refine inv_valC (d:=38) (x:=.pointer (some ⟨b5,1,none⟩)) (by kernel_rfl) cMm hI (by simp only[lst_set_ne (show (15:Nat)≠10 by decide),lst_set_ne (show (17:Nat)≠10 by decide)]) ?_
  clear z
  simp only[fillD,fLa,fLb,sTa,sTb]
  go_wp2
  exact cY
 ·intro l g w hi hI z
  have hL:=hI.loc
  try dsimp only at hL
  have d10:=hI.vals (10,38,.pointer (some ⟨b5,1,none⟩)) cMm (z 10 (by decide))
  try dsimp only at d10
  refine inv_valC (d:=39) (x:=.pointer (some ⟨b5,2,none⟩)) (by kernel_rfl) cMm hI (by simp only[lst_set_ne (show (15:Nat)≠11 by decide),lst_set_ne (show (17:Nat)≠11 by decide)]) ?_
  clear z
  simp only[fillD,fLa,fLb,sTa,sTb]
  simp only[d10]
  go_wp2
  exact cY
 ·intro l g w hi hI z
  have hL:=hI.loc
  try dsimp only at hL
  have d11:=hI.vals (11,39,.pointer (some ⟨b5,2,none⟩)) cMm (z 11 (by decide))
  try dsimp only at d11
  refine inv_valC (d:=40) (x:=.int .i64 hlo) (by kernel_rfl) cMm hI (by simp only[lst_set_ne (show (15:Nat)≠12 by decide),lst_set_ne (show (17:Nat)≠12 by decide)]) ?_
  clear z
  simp only[fillD,fLa,fLb,sTa,sTb]
  simp only[d11]
  go_wp2_with (first|(with_reducible refine lld hL ?_)|(with_reducible refine ldD hL ?_))
  exact cY
 ·intro l g w hi hI z
  have hL:=hI.loc
  try dsimp only at hL
  have d9:=hI.vals (9,37,.int .i64 ghi) cMm (z 9 (by decide))
  try dsimp only at d9
  have d12:=hI.vals (12,40,.int .i64 hlo) cMm (z 12 (by decide))
  try dsimp only at d12
  refine inv_valC (d:=41) (x:=.bool (decide (hlo≤ghi))) (by kernel_rfl) cMm hI (by simp only[lst_set_ne (show (15:Nat)≠13 by decide),lst_set_ne (show (17:Nat)≠13 by decide)]) ?_
  clear z
  simp only[fillD,fLa,fLb,sTa,sTb]
  simp only[d9,d12]
  go_wp2
  exact cY
 ·intro l g w hi hI z
  have hL:=hI.loc
  try dsimp only at hL
  refine inv_valC (d:=42) (x:=.pointer (some ⟨b7,4,none⟩)) (by kernel_rfl) cMm hI (by simp only[lst_set_ne (show (15:Nat)≠14 by decide),lst_set_ne (show (17:Nat)≠14 by decide)]) ?_
  clear z
  simp only[fillD,fLa,fLb,sTa,sTb]
  go_wp2
  exact cY
 ·intro l g w hi hI z
  have hL:=hI.loc
  try dsimp only at hL
  have d14:=hI.vals (14,42,.pointer (some ⟨b7,4,none⟩)) cMm (z 14 (by decide))
  try dsimp only at d14
  have d6:=hI.vals (6,34,.bool (decide (glo<hhi))) cMm (z 6 (by decide))
  try dsimp only at d6
  refine inv_stD (i:=15) (L:=[(b7,108,[.bool false,.bool true,.int .i64 0,.int .i64 0,.bool (decide (glo<hhi)),bif lst l 17 then .bool (decide (hlo≤ghi)) else .bool false,.slice none 0 0]),(b6,108,[.bool false,.bool false,.int .i64 0,.int .i64 0,.bool false,.bool false,.slice none 0 0]),(b5,108,[.bool hl,.bool false,.int .i64 hlo,.int .i64 hhi,.bool ht,.bool hf,.slice hp hc hcap]),(b4,108,[.bool nl,.bool false,.int .i64 glo,.int .i64 ghi,.bool gt,.bool gf,.slice gp gc gcap])]) hI (by kernel_rfl) (by simp only[lst_set_self hi,lst_set_ne (show (17:Nat)≠15 by decide),cond_true]) ?_
  clear z
  simp only[fillD,fLa,fLb,sTa,sTb]
  simp only[d14,d6]
  ((with_reducible refine lst' hL ?_);clear hL;intro w1 hL)
  exact⟨rfl,rfl,hL⟩
 ·intro l g w hi hI z
  have hL:=hI.loc
  try dsimp only at hL
  refine inv_valC (d:=43) (x:=.pointer (some ⟨b7,5,none⟩)) (by kernel_rfl) cMm hI (by simp only[lst_set_ne (show (15:Nat)≠16 by decide),lst_set_ne (show (17:Nat)≠16 by decide)]) ?_
  clear z
  simp only[fillD,fLa,fLb,sTa,sTb]
  go_wp2
  exact cY
 ·intro l g w hi hI z
  have hL:=hI.loc
  try dsimp only at hL
  have d16:=hI.vals (16,43,.pointer (some ⟨b7,5,none⟩)) cMm (z 16 (by decide))
  try dsimp only at d16
  have d13:=hI.vals (13,41,.bool (decide (hlo≤ghi))) cMm (z 13 (by decide))
  try dsimp only at d13
  refine inv_stD (i:=17) (L:=[(b7,108,[.bool false,.bool true,.int .i64 0,.int .i64 0,bif lst l 15 then .bool (decide (glo<hhi)) else .bool false,.bool (decide (hlo≤ghi)),.slice none 0 0]),(b6,108,[.bool false,.bool false,.int .i64 0,.int .i64 0,.bool false,.bool false,.slice none 0 0]),(b5,108,[.bool hl,.bool false,.int .i64 hlo,.int .i64 hhi,.bool ht,.bool hf,.slice hp hc hcap]),(b4,108,[.bool nl,.bool false,.int .i64 glo,.int .i64 ghi,.bool gt,.bool gf,.slice gp gc gcap])]) hI (by kernel_rfl) (by simp only[lst_set_self hi,lst_set_ne (show (15:Nat)≠17 by decide),cond_true]) ?_
  clear z
  simp only[fillD,fLa,fLb,sTa,sTb]
  simp only[d16,d13]
  ((with_reducible refine lst' hL ?_);clear hL;intro w1 hL)
  exact⟨rfl,rfl,hL⟩
 intro g w2 l hl hL hX
 simp only[hl 15 (by decide),hl 17 (by decide),cond_true]at hL
 have e0:=hX (0,28,.pointer (some ⟨b4,1,none⟩)) cMm (show (0:Nat)<18 by decide)
 have e1:=hX (1,29,.pointer (some ⟨b4,2,none⟩)) cMm (show (1:Nat)<18 by decide)
 have e2:=hX (2,30,.int .i64 glo) cMm (show (2:Nat)<18 by decide)
 have e3:=hX (3,31,.pointer (some ⟨b5,1,none⟩)) cMm (show (3:Nat)<18 by decide)
 have e4:=hX (4,32,.pointer (some ⟨b5,3,none⟩)) cMm (show (4:Nat)<18 by decide)
 have e5:=hX (5,33,.int .i64 hhi) cMm (show (5:Nat)<18 by decide)
 have e6:=hX (6,34,.bool (decide (glo<hhi))) cMm (show (6:Nat)<18 by decide)
 have e7:=hX (7,35,.pointer (some ⟨b4,1,none⟩)) cMm (show (7:Nat)<18 by decide)
 have e8:=hX (8,36,.pointer (some ⟨b4,3,none⟩)) cMm (show (8:Nat)<18 by decide)
 have e9:=hX (9,37,.int .i64 ghi) cMm (show (9:Nat)<18 by decide)
 have e10:=hX (10,38,.pointer (some ⟨b5,1,none⟩)) cMm (show (10:Nat)<18 by decide)
 have e11:=hX (11,39,.pointer (some ⟨b5,2,none⟩)) cMm (show (11:Nat)<18 by decide)
 have e12:=hX (12,40,.int .i64 hlo) cMm (show (12:Nat)<18 by decide)
 have e13:=hX (13,41,.bool (decide (hlo≤ghi))) cMm (show (13:Nat)<18 by decide)
 have e14:=hX (14,42,.pointer (some ⟨b7,4,none⟩)) cMm (show (14:Nat)<18 by decide)
 have e16:=hX (16,43,.pointer (some ⟨b7,5,none⟩)) cMm (show (16:Nat)<18 by decide)
 try dsimp only at e0 e1 e2 e3 e4 e5 e6 e7 e8 e9 e10 e11 e12 e13 e14 e16
 clear hX hl
 simp only[fillD,fLa,fLb,sTa,sTb]
 simp only[e0,e1,e2,e3,e4,e5,e6,e7,e8,e9,e10,e11,e12,e13,e14,e16]
 clear e0 e1 e2 e3 e4 e5 e6 e7 e8 e9 e10 e11 e12 e13 e14 e16
 go_wp2_with (first|(with_reducible first|refine lld hL ?_|((first|refine lbx hL ?_|refine lal hL ?_|refine lbs hL ?_);clear hL;intro bl w1 hL)|(refine lst' hL ?_;clear hL;intro w1 hL)))
 (try simp only[Exit.inBlock,Exit.then]);refine rt1 ?_
 exact⟨rfl,hL.below⟩
def cntB (b:Bool):Int:=bif b then 1 else 0
def cnt4 (a b c d:Bool):Int:=cntB a+cntB b+cntB c+cntB d
def oneG (g:Gu):Bool:=((g.s.n:Int)*2+cnt4 g.null g.tr g.fa (!g.span.none))==1&&g.span.lo==g.span.hi
def cntN (f:Nat→Bool):Nat→Int
 | 0=>0
 | k+1=>cntN f k+cntB (f k)
def pick4 (a b c d:Bool) (k:Nat):Bool:=if k=0 then a else if k=1 then b else if k=2 then c else d
theorem cntN_le (f:Nat→Bool):∀ k:Nat,0≤cntN f k∧cntN f k≤k
 | 0=>⟨Int.le_refl _,Int.le_refl _⟩
 | k+1=>by
  have:=cntN_le f k
  rw[cntN]
  cases f k<;>simp only[cntB,cond_true,cond_false]<;>omega
theorem cntN_4 (a b c d:Bool):cntN (pick4 a b c d) 4=cnt4 a b c d:=by
 simp[cntN,pick4,cnt4]
theorem gone_any (g:Gu) (hn:g.s.n≤1000000) (w:World):Calls Tryz.prog 233 #[g.v] w fun e w'=>e=.returned (.bool (oneG g))∧Below w.heap.size w w':=by
 obtain⟨nl,⟨sn,slo,shi⟩,tr,fa,⟨sp,sc,scap⟩⟩:=g
 dsimp only at hn
 have HF:=Lib.hid (show oneG ⟨nl,⟨sn,slo,shi⟩,tr,fa,⟨sp,sc,scap⟩⟩=(((sc:Int)*2+cntN (pick4 nl tr fa (!sn)) 4)==1&&slo==shi) by rw[cntN_4];rfl)
 have hL:=Loc.start w
 go_enter Tryz.func233,Tryz.ntmps233
 go_step
 go_step
 go_step
 ((with_reducible refine lbx hL ?_);clear hL;intro b2 w1 hL)
 go_wp2_with (first|(with_reducible first|refine lld hL ?_|((first|refine lbx hL ?_|refine lal hL ?_|refine lbs hL ?_);clear hL;intro bl w1 hL)|(refine lst' hL ?_;clear hL;intro w1 hL)))
 obtain⟨b10,hb10⟩:∃ x,x=bl:=⟨_,rfl⟩
 subst hb10
 have HB:=Lib.hid (fun (k:Nat) (h:k<4)=>show ([.bool nl,.bool tr,.bool fa,.bool (!sn)]:List Value)[k]? = some (.bool (pick4 nl tr fa (!sn) k)) by
  rcases k with _|_|_|_|k<;>first|rfl|omega)
 go_loopw [3,22] (fun c3 c22 wr=>∃ k:Nat,k≤4∧c3=.int .i64 ((sc:Int)*2+cntN (pick4 nl tr fa (!sn)) k)∧c22=.int .i64 k∧Loc w wr [(b10,4,[.bool nl,.bool tr,.bool fa,.bool (!sn)]),(b2,108,[.bool nl,.bool sn,.int .i64 slo,.int .i64 shi,.bool tr,.bool fa,.slice sp sc scap])] []) (fun _ c _=>4 - (intOf c).toNat)
 case atStart=>exact⟨0,Nat.zero_le _,by simp[cntN],rfl,hL⟩
 case round=>
  obtain⟨k,hk,rfl,rfl,hL⟩:=hrel
  rcases (show k=4∨k<4 by omega) with rfl|hlt
  ·generalize cntN (pick4 nl tr fa (!sn)) 4=c at HF ⊢
   by_cases h1:(sc:Int)*2+c=1
   ·have HX:=Lib.hid h1
    simp only[h1]
    clear h1
    by_cases h2:slo=shi
    ·subst h2
     go_wp2_with (first|(with_reducible first|refine lld hL ?_|((first|refine lbx hL ?_|refine lal hL ?_|refine lbs hL ?_);clear hL;intro bl w1 hL)|(refine lst' hL ?_;clear hL;intro w1 hL)))
     (try simp only[Exit.inBlock,Exit.then]);refine rt1 ?_
     exact⟨by rw[HF.out,HX.out];simp,hL.below⟩
    ·have k2:(slo==shi)=false:=beq_eq_false_iff_ne.2 h2
     have HK:=Lib.hid k2
     clear h2
     go_wp2_with (first|(with_reducible first|refine lld hL ?_|((first|refine lbx hL ?_|refine lal hL ?_|refine lbs hL ?_);clear hL;intro bl w1 hL)|(refine lst' hL ?_;clear hL;intro w1 hL)))
     (try simp only[Exit.inBlock,Exit.then]);refine rt1 ?_
     exact⟨by rw[HF.out,HK.out];simp,hL.below⟩
   ·have k1:((sc:Int)*2+c==1)=false:=beq_eq_false_iff_ne.2 h1
    have HX:=Lib.hid k1
    clear h1
    go_wp2_with (first|(with_reducible first|refine lld hL ?_|((first|refine lbx hL ?_|refine lal hL ?_|refine lbs hL ?_);clear hL;intro bl w1 hL)|(refine lst' hL ?_;clear hL;intro w1 hL)))
    (try simp only[Exit.inBlock,Exit.then]);refine rt1 ?_
    exact⟨by rw[HF.out,HX.out];simp,hL.below⟩
  ·have hb:=HB.out k hlt
   have HC:=Lib.hid (cntN_le (pick4 nl tr fa (!sn)) k)
   have hs:cntN (pick4 nl tr fa (!sn)) (k+1)=cntN (pick4 nl tr fa (!sn)) k+cntB (pick4 nl tr fa (!sn) k):=rfl
   generalize cntN (pick4 nl tr fa (!sn)) k=c at HC hs ⊢
   generalize pick4 nl tr fa (!sn) k=x at hb hs
   have hc:=HC.out
   cases x with
   | true=>
    have HS:=Lib.hid (hs.trans (show c+cntB true=c+1 from rfl))
    clear hs
    go_wp2_with (first|(refine loc_load (b:=b10) hL rfl rfl cIn (Reads.cell tBool hb) ?_)|(with_reducible first|refine lld hL ?_|((first|refine lbx hL ?_|refine lal hL ?_|refine lbs hL ?_);clear hL;intro bl w1 hL)|(refine lst' hL ?_;clear hL;intro w1 hL)))
    go_roundw
    case rel=>exact⟨k+1,by omega,by first|(rw[HS.out];done)|(rw[HS.out];go_num),by go_num,hL⟩
    case measure=>simp[intOf];omega
   | false=>
    have HS:=Lib.hid (hs.trans (show c+cntB false=c from Int.add_zero c))
    clear hs
    go_wp2_with (first|(refine loc_load (b:=b10) hL rfl rfl cIn (Reads.cell tBool hb) ?_)|(with_reducible first|refine lld hL ?_|((first|refine lbx hL ?_|refine lal hL ?_|refine lbs hL ?_);clear hL;intro bl w1 hL)|(refine lst' hL ?_;clear hL;intro w1 hL)))
    go_roundw
    case rel=>exact⟨k+1,by omega,by first|(rw[HS.out];done)|(rw[HS.out];go_num),by go_num,hL⟩
    case measure=>simp[intOf];omega
def OwnI (B:Nat) (w:World) (s:Sl) (l:List Int):Prop:=∃ R:List LBlk,RowS 3 1 s.p s.n s.cap (l.map (Value.int .i64)) R∧Own B w R
theorem OwnI.ints {B:Nat}{w:World}{s:Sl}{l:List Int}(h:OwnI B w s l):IntsAt w s l:=by
 obtain⟨R,hr,ho⟩:=h
 exact hr.ints ho
theorem OwnI.nil {B:Nat}{w:World}:OwnI B w nilSl []:=⟨[],RowS.nil,Own.nil⟩
theorem OwnI.grow {B:Nat}{w w' : World}{s:Sl}{l:List Int}(h:OwnI B w s l) (hb:Below w.heap.size w w'):OwnI B w' s l:=by
 obtain⟨R,hr,ho⟩:=h
 exact⟨R,hr,ho.grow hb⟩
theorem OwnI.mono {B B' : Nat}{w:World}{s:Sl}{l:List Int}(h:OwnI B w s l) (hB:B'≤B):OwnI B' w s l:=by
 obtain⟨R,hr,ho⟩:=h
 exact⟨R,hr,ho.mono hB⟩
def KeptI (B:Nat) (w:World) (s0:Sl) (l0:List Int) (s:Sl) (l:List Int):Prop:=∃ R:List LBlk,(s=s0∧l=l0∧R=[]∨RowS 3 1 s.p s.n s.cap (l.map (Value.int .i64)) R)∧Own B w R
theorem KeptI.self {B:Nat}{w:World}{s:Sl}{l:List Int}:KeptI B w s l s l:=⟨[],.inl ⟨rfl,rfl,rfl⟩,Own.nil⟩
theorem OwnI.kept {B:Nat}{w:World}{s0:Sl}{l0:List Int}{s:Sl}{l:List Int}(h:OwnI B w s l):KeptI B w s0 l0 s l:=by
 obtain⟨R,hr,ho⟩:=h
 exact⟨R,.inr hr,ho⟩
section
variable {P : Program} {ops : Array Oper} {Q : Exit → Act → World → Prop} {a : Act} {w0 w : World} {rest : List Oper} {L : List LBlk} {D : List Datum}
 {d:Option Tmp} {ty:TypeId} {pos:String} {after:Array Edge} {g:Option (Nat × Bool)}
theorem ldB {T:TypeId}{x:Operand}{b off:Nat}{v:Value}(hr:ReadsAt P T w0 b off v) (hL:Loc w0 w L D) (h:wpList P ops Q rest (a.put d v) w)
  (hx:a.eval x=.pointer (some ⟨b,off,none⟩):=by with_unfolding_all rfl)
  (hw:Region.wanted ⟨d,.load T x,ty,pos,after,g⟩ (yielded ops a.tmps)=true:=by with_unfolding_all (first|(with_reducible exact want0)|(refine want1 rfl ?_;(simp only[Act.put,List.setIfInBounds_toArray,List.set_cons_zero,List.set_cons_succ,List.getElem?_toArray,List.getElem?_cons_succ,List.getElem?_cons_zero]);done)|(refine want1 rfl ?_;(simp only[Act.put,List.setIfInBounds_toArray,List.set_cons_zero,List.set_cons_succ,List.getElem?_toArray,List.getElem?_cons_succ,List.getElem?_cons_zero,Option.some.injEq,Value.bool.injEq]);assumption))):wpList P ops Q (⟨d,.load T x,ty,pos,after,g⟩::rest) a w:=loc_loadB hr hL hw hx h
theorem ldO {T:TypeId}{x:Operand}{b off:Nat}{Tb:TypeId}{cs:List Value}{f:List Value→List LBlk}{v:Value}(hv:Reads P T cs off v) (hL:Loc w0 w L D) (h:wpList P ops Q rest (a.put d v) w)
  (hx:a.eval x=.pointer (some ⟨b,off,none⟩):=by with_unfolding_all rfl)
  (hm:InL b Tb cs L f:=by with_unfolding_all ((repeat (first|exact InL.head|apply InL.tail))<;>fail))
  (hw:Region.wanted ⟨d,.load T x,ty,pos,after,g⟩ (yielded ops a.tmps)=true:=by with_unfolding_all (first|(with_reducible exact want0)|(refine want1 rfl ?_;(simp only[Act.put,List.setIfInBounds_toArray,List.set_cons_zero,List.set_cons_succ,List.getElem?_toArray,List.getElem?_cons_succ,List.getElem?_cons_zero]);done)|(refine want1 rfl ?_;(simp only[Act.put,List.setIfInBounds_toArray,List.set_cons_zero,List.set_cons_succ,List.getElem?_toArray,List.getElem?_cons_succ,List.getElem?_cons_zero,Option.some.injEq,Value.bool.injEq]);assumption))):wpList P ops Q (⟨d,.load T x,ty,pos,after,g⟩::rest) a w:=loc_load hL hw hx hm hv h
end
end Go.Proofs.YtplcndmdkabmeaaGreatDoor
