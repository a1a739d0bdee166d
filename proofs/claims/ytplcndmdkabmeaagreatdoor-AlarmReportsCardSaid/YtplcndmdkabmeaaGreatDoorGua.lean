/- The walks over small functions of guesses. Conditions: sites lie in memory that was there. | The walks over functions on lists of ints: slices.Index, slices.Contains, the reference's Has and SameInts. Conditions: the ints lie in memory that was there. | A region that draws its order and stores into blocks of the call's own: an invariant over what has come up. Over any program. Conditions: none. | The walks over more functions of guesses: Counts, TruthOf, truths, two, Is, Held, HeldOf. Conditions: sites lie in memory that was there. | The walk over guess.two at 'less'. Conditions: none. | The walks over guess.one and the reference's Single: is a guess one value? Conditions: few sites. | A slice of ints in a call's own memory; or one that was there. Conditions: none. | More short words for the walks: loads of what was there, and of blocks whose cells are not written out. Over any program. Conditions: none. -/
import Derived.Test.YtplcndmdkabmeaaGreatDoorCod
import Derived.Test.YtplcndmdkabmeaaGreatDoorSpn
import Derived.Test.YtplcndmdkabmeaaGreatDoorLib
set_option linter.unusedSimpArgs false
set_option linter.unusedVariables false
set_option maxRecDepth 100000
set_option maxHeartbeats 8000000
namespace Go.Proofs.YtplcndmdkabmeaaGreatDoor
open Go.RowKit
structure Gu where
 null:Bool
 span:zq
 tr:Bool
 fa:Bool
 s:Sl
abbrev Gu.cells (g:Gu):List Value:=[.bool g.null,.bool g.span.none,.int .i64 g.span.lo,.int .i64 g.span.hi,.bool g.tr,.bool g.fa,.slice g.s.p g.s.n g.s.cap]
abbrev Gu.v (g:Gu):Value:=.agg #[.bool g.null,.bool g.span.none,.int .i64 g.span.lo,.int .i64 g.span.hi,.bool g.tr,.bool g.fa,.slice g.s.p g.s.n g.s.cap]
abbrev qu:Gu:=⟨false,zC,false,false,zn⟩
def qj (g:Gu):Bool:=!g.null&&g.span.none && !g.tr && !g.fa&&(g.s.n:Int)==0
def yN (g:Gu):Bool:=g.null || g.tr || g.fa || decide (0<g.s.n)
def JF (g:Gu):Bool:=(!g.span.none && !(g.span.lo==0&&g.span.hi==0)) || g.tr || decide (0<g.s.n)
def noG (g:Gu):Bool:=g.null || g.fa || jT g.span 0
theorem jk (w:World):Calls Tryz.prog 136 #[] w fun e w'=>e=.returned qu.v∧Below w.heap.size w w':=by
 have hL:=Loc.start w
 go_enter Tryz.func136,Tryz.ntmps136
 go_wp2_with (first|(with_reducible first|(refine lal hL ?_;clear hL;intro bl w1 hL)|(refine zd hL ?_;clear hL;intro w1 hL))|(go_at_call 181;refine(Zc _).mono ?_;rintro e w1 ⟨rfl,hb⟩;replace hL:=hL.grow hb;clear hb;dsimp only))
 refine rt1 ?_
 exact⟨rfl,hL.below⟩
theorem zt (w:World):Calls Tryz.prog 78 #[] w fun e w'=>e=.returned qu.v∧Below w.heap.size w w':=by
 have hL:=Loc.start w
 go_enter Tryz.func78,Tryz.ntmps78
 go_wp2_with (first|(with_reducible first|(refine lal hL ?_;clear hL;intro bl w1 hL)|(refine zd hL ?_;clear hL;intro w1 hL)))
 refine rt1 ?_
 exact⟨rfl,hL.below⟩
theorem yF (g:Gu) (w:World):Calls Tryz.prog 147 #[g.v] w fun e w'=>e=.returned (.bool (qj g))∧Below w.heap.size w w':=by
 have hL:=Loc.start w
 go_enter Tryz.func147,Tryz.ntmps147
 go_upto_region 1 with(first|(with_reducible refine lbx hL ?_;clear hL;intro bl w1 hL))
 refine zJ [3,4,5,6,7,8,9,10,11,12,13,14,15,16,17,18,19,20,21,22,23,24,25,26,2] ?_
 refine dv0 ?_
 refine dv1 0 ?_
 refine dv1 1 ?_
 refine dv1 2 ?_
 refine dg0 3 ?_
 refine dg1 3 4 ?_
 refine dg1 3 5 ?_
 refine dpa 3 6 ?_
 refine dv1 7 ?_
 refine dg0 8 ?_
 refine dg1 8 9 ?_
 refine dg1 8 10 ?_
 refine dpa 8 11 ?_
 refine dv1 12 ?_
 refine dg0 13 ?_
 refine dg1 13 14 ?_
 refine dg1 13 15 ?_
 refine dpa 13 16 ?_
 refine dv1 17 ?_
 refine dg0 18 ?_
 refine dg1 18 19 ?_
 refine dg1 18 20 ?_
 refine dg1 18 21 ?_
 refine dpa 18 22 ?_
 refine dv1 23 ?_
 refine dns hL ?_
 clear hL;intro w2 hL;simp only[zV,sTa,sTb]
 go_wp2
 refine rt1 ?_
 exact⟨by rfl,hL.below⟩
theorem zW (g:Gu) (w:World):Calls Tryz.prog 83 #[g.v] w fun e w'=>e=.returned (.bool (qj g))∧Below w.heap.size w w':=by
 have hL:=Loc.start w
 go_enter Tryz.func83,Tryz.ntmps83
 go_upto_region 1 with(first|(with_reducible refine lbx hL ?_;clear hL;intro bl w1 hL))
 refine zJ [3,4,5,6,7,8,9,10,11,12,13,14,15,16,17,18,19,20,21,22,23,24,25,26,2] ?_
 refine dv0 ?_
 refine dv1 0 ?_
 refine dv1 1 ?_
 refine dv1 2 ?_
 refine dg0 3 ?_
 refine dg1 3 4 ?_
 refine dg1 3 5 ?_
 refine dpa 3 6 ?_
 refine dv1 7 ?_
 refine dg0 8 ?_
 refine dg1 8 9 ?_
 refine dg1 8 10 ?_
 refine dpa 8 11 ?_
 refine dv1 12 ?_
 refine dg0 13 ?_
 refine dg1 13 14 ?_
 refine dg1 13 15 ?_
 refine dpa 13 16 ?_
 refine dv1 17 ?_
 refine dg0 18 ?_
 refine dg1 18 19 ?_
 refine dg1 18 20 ?_
 refine dg1 18 21 ?_
 refine dpa 18 22 ?_
 refine dv1 23 ?_
 refine dns hL ?_
 clear hL;intro w2 hL;simp only[zV,sTa,sTb]
 go_wp2
 refine rt1 ?_
 exact⟨by rfl,hL.below⟩
theorem XI (g:Gu) (w:World):Calls Tryz.prog 207 #[g.v] w fun e w'=>e=.returned (.bool (yN g))∧Below w.heap.size w w':=by
 have hL:=Loc.start w
 go_enter Tryz.func207,Tryz.ntmps207
 go_upto_region 1 with(first|(with_reducible refine lbx hL ?_;clear hL;intro bl w1 hL))
 refine zJ [3,4,5,6,7,8,9,10,11,12,13,14,15,16,17,18,2] ?_
 refine dv0 ?_
 refine dv1 0 ?_
 refine dv1 1 ?_
 refine dg0 2 ?_
 refine dg1 2 3 ?_
 refine dpo 2 4 ?_
 refine dv1 5 ?_
 refine dg0 6 ?_
 refine dg1 6 7 ?_
 refine dpo 6 8 ?_
 refine dv1 9 ?_
 refine dg0 10 ?_
 refine dg1 10 11 ?_
 refine dg1 10 12 ?_
 refine dg1 10 13 ?_
 refine dpo 10 14 ?_
 refine dv1 15 ?_
 refine dns hL ?_
 clear hL;intro w2 hL;simp only[zV,sTa,sTb]
 go_wp2
 refine rt1 ?_
 exact⟨by rfl,hL.below⟩
theorem QI (g:Gu) (w:World):Calls Tryz.prog 123 #[g.v] w fun e w'=>e=.returned (.bool (yN g))∧Below w.heap.size w w':=by
 have hL:=Loc.start w
 go_enter Tryz.func123,Tryz.ntmps123
 go_upto_region 1 with(first|(with_reducible refine lbx hL ?_;clear hL;intro bl w1 hL))
 refine zJ [3,4,5,6,7,8,9,10,11,12,13,14,15,16,17,18,2] ?_
 refine dv0 ?_
 refine dv1 0 ?_
 refine dv1 1 ?_
 refine dg0 2 ?_
 refine dg1 2 3 ?_
 refine dpo 2 4 ?_
 refine dv1 5 ?_
 refine dg0 6 ?_
 refine dg1 6 7 ?_
 refine dpo 6 8 ?_
 refine dv1 9 ?_
 refine dg0 10 ?_
 refine dg1 10 11 ?_
 refine dg1 10 12 ?_
 refine dg1 10 13 ?_
 refine dpo 10 14 ?_
 refine dv1 15 ?_
 refine dns hL ?_
 clear hL;intro w2 hL;simp only[zV,sTa,sTb]
 go_wp2
 refine rt1 ?_
 exact⟨by rfl,hL.below⟩
def j6 (l:List Int) (v:Int):Bool:=j7 (fun k=>l.getD k 0==v) l.length
theorem Zg {l:List Int}{v:Int}:j6 l v=true↔v∈l:=by
 unfold j6
 rw[KH]
 constructor
 ·rintro⟨k,hk,h⟩
  rw[List.getD_eq_getElem?_getD,List.getElem?_eq_getElem hk]at h
  have:l[k]=v:=by simpa using h
  exact this▸List.getElem_mem hk
 ·intro h
  obtain⟨k,hk,h⟩:=List.mem_iff_getElem.1 h
  exact⟨k,hk,by rw[List.getD_eq_getElem?_getD,List.getElem?_eq_getElem hk];simp[h]⟩
def ZH (l m:List Int):Bool:=(l.length==m.length) && !j7 (fun k=>l.getD k 0 != m.getD k 0) l.length
theorem zbF (l:List Int):ZH l l=true:=by
 unfold ZH
 rw[jx (fun k _=>by simp)]
 simp
theorem zbG (s:Sl) (l:List Int) (v:Int) (w:World) (hl:zp w s l):
  Calls Tryz.prog 225 #[s.v,.int .i64 v] w fun e w'=>∃ r:Int,e=.returned (.int .i64 r)∧decide (0≤r)=j6 l v∧Below w.heap.size w w':=by
 obtain⟨b,o,hp,hc⟩:=hl.reads QQ
 have hn:=hl.n
 have hm:=hl.m
 obtain⟨p,n,cap⟩:=s
 dsimp only at hp hc hn hm
 subst hn
 dsimp only[Sl.v]
 have HP:=Lib.hid hp
 have HC:=Lib.hid hc
 clear hp hc hl
 have hL:=Loc.start w
 go_enter Tryz.func225,Tryz.ntmps225
 go_wp2
 go_loopw [8] (fun x wr=>∃ k:Nat,k≤l.length∧x=.int .i64 k∧(∀ j,j<k→(l.getD j 0==v)=false)∧Loc w wr [] []) (fun x _=>l.length - (intOf x).toNat)
 case atStart=>exact⟨0,Nat.zero_le _,rfl,fun j hj=>absurd hj (by omega),hL⟩
 case round=>
  clear hL
  obtain⟨k,hk,rfl,hq,hL⟩:=hrel
  have HQ:=Lib.hid hq
  clear hq
  by_cases hlt:k<l.length
  ·have HPC:=Lib.hid (HP.out (by omega))
   have HR:=Lib.hid (HC.out k hlt)
   generalize hx:l.getD k 0=x at HR
   have HX:=Lib.hid hx
   clear hx
   go_upto_region 4 with(fail)
   refine zJ [11,12,13,14,15,16] ?_
   refine dv0 ?_
   refine dv0 ?_
   refine dv0 ?_
   apply zb
   ·intro g w hb V;replace hL:=hL.grow hb;have d1:=yv V 1;have d2:=yv V 2;clear V;simp only[za,fLa,fLb,sTa,sTb];simp only[d1,d2]
    (simp only[HPC.out];go_wp2)
    exact cY
   simp only[apN,apC]
   apply zb
   ·intro g w hb V;replace hL:=hL.grow hb;have d3:=yv V 3;clear V;simp only[za,fLa,fLb,sTa,sTb];simp only[d3]
    refine zo HR.out hL rfl rfl ?_
    exact cY
   simp only[apN,apC]
   refine dv2 0 4 ?_
   refine dns hL ?_
   clear hL;intro w2 hL;simp only[zV,sTa,sTb]
   by_cases he:x=v
   ·subst he
    have HA:=Lib.hid (show j6 l x=true from qY hlt (by show (l.getD k 0==x)=true;rw[HX.out];exact beq_self_eq_true x))
    go_wp2
    go_ret
    exact⟨_,rfl,by rw[HA.out];simp,hL.below⟩
   ·have h1:(v==x)=false:=beq_eq_false_iff_ne.2 (fun h=>he h.symm)
    have HE:=Lib.hid he
    clear he
    simp only[h1]
    clear h1
    go_wp2
    go_roundw
    case rel=>
     refine⟨k+1,by omega,by go_num,fun j hj=>?_,hL⟩
     rcases Nat.lt_or_ge j k with h|h
     ·exact HQ.out j h
     ·obtain rfl:j=k:=by omega
      rw[HX.out]
      exact beq_eq_false_iff_ne.2 HE.out
    case measure=>simp[intOf];omega
  ·obtain rfl:k=l.length:=by omega
   have HA:=Lib.hid (show j6 l v=false from jx HQ.out)
   go_wp2
   go_ret
   exact⟨_,rfl,by rw[HA.out];rfl,hL.below⟩
theorem YQ (s:Sl) (l:List Int) (v:Int) (w:World) (hl:zp w s l):
  Calls Tryz.prog 183 #[s.v,.int .i64 v] w fun e w'=>e=.returned (.bool (j6 l v))∧Below w.heap.size w w':=by
 have HI:=Lib.hid (zbG s l v w hl)
 clear hl
 go_enter Tryz.func183,Tryz.ntmps183
 go_wp2_with (go_at_call 225;refine HI.out.mono ?_;rintro e w1 ⟨r,rfl,hr,hb⟩;dsimp only)
 go_ret
 exact⟨by rw[← hr];rfl,hb⟩
theorem VD (s:Sl) (l:List Int) (v:Int) (w:World) (hl:zp w s l):
  Calls Tryz.prog 120 #[s.v,.int .i64 v] w fun e w'=>e=.returned (.bool (j6 l v))∧Below w.heap.size w w':=by
 obtain⟨b,o,hp,hc⟩:=hl.reads QQ
 have hn:=hl.n
 have hm:=hl.m
 obtain⟨p,n,cap⟩:=s
 dsimp only at hp hc hn hm
 subst hn
 dsimp only[Sl.v]
 have HP:=Lib.hid hp
 have HC:=Lib.hid hc
 clear hp hc hl
 have hL:=Loc.start w
 go_enter Tryz.func120,Tryz.ntmps120
 go_wp2
 go_loopw [5] (fun x wr=>∃ k:Nat,k≤l.length∧x=.int .i64 k∧(∀ j,j<k→(l.getD j 0==v)=false)∧Loc w wr [] []) (fun x _=>l.length - (intOf x).toNat)
 case atStart=>exact⟨0,Nat.zero_le _,rfl,fun j hj=>absurd hj (by omega),hL⟩
 case round=>
  clear hL
  obtain⟨k,hk,rfl,hq,hL⟩:=hrel
  have HQ:=Lib.hid hq
  clear hq
  by_cases hlt:k<l.length
  ·have HPC:=Lib.hid (HP.out (by omega))
   have HR:=Lib.hid (HC.out k hlt)
   generalize hx:l.getD k 0=x at HR
   have HX:=Lib.hid hx
   clear hx
   go_upto_region 4 with(fail)
   refine zJ [12,13,14,15,16,17] ?_
   refine dv0 ?_
   refine dv0 ?_
   apply zb
   ·intro g w hb V;replace hL:=hL.grow hb;have d0:=yv V 0;have d1:=yv V 1;clear V;simp only[za,fLa,fLb,sTa,sTb];simp only[d0,d1]
    (simp only[HPC.out];go_wp2)
    exact cY
   simp only[apN,apC]
   apply zb
   ·intro g w hb V;replace hL:=hL.grow hb;have d2:=yv V 2;clear V;simp only[za,fLa,fLb,sTa,sTb];simp only[d2]
    refine zo HR.out hL rfl rfl ?_
    exact cY
   simp only[apN,apC]
   refine dv0 ?_
   refine dv2 3 4 ?_
   refine dns hL ?_
   clear hL;intro w2 hL;simp only[zV,sTa,sTb]
   by_cases he:x=v
   ·subst he
    have HA:=Lib.hid (show j6 l x=true from qY hlt (by show (l.getD k 0==x)=true;rw[HX.out];exact beq_self_eq_true x))
    go_wp2
    go_ret
    exact⟨by first|(rw[HA.out];done)|(rw[HA.out];rfl),hL.below⟩
   ·have h1:(x==v)=false:=beq_eq_false_iff_ne.2 he
    have HE:=Lib.hid he
    clear he
    simp only[h1]
    clear h1
    go_wp2
    go_roundw
    case rel=>
     refine⟨k+1,by omega,by go_num,fun j hj=>?_,hL⟩
     rcases Nat.lt_or_ge j k with h|h
     ·exact HQ.out j h
     ·obtain rfl:j=k:=by omega
      rw[HX.out]
      exact beq_eq_false_iff_ne.2 HE.out
    case measure=>simp[intOf];omega
  ·obtain rfl:k=l.length:=by omega
   have HA:=Lib.hid (show j6 l v=false from jx HQ.out)
   go_wp2
   go_ret
   exact⟨by first|(rw[HA.out];done)|(rw[HA.out];rfl),hL.below⟩
theorem Gi (s t:Sl) (l m:List Int) (w:World) (hl:zp w s l) (hm:zp w t m):
  Calls Tryz.prog 167 #[s.v,t.v] w fun e w'=>e=.returned (.bool (ZH l m))∧Below w.heap.size w w':=by
 obtain⟨b,o,hp,hc⟩:=hl.reads QQ
 obtain⟨b2,o2,hp2,hc2⟩:=hm.reads QQ
 have hn:=hl.n
 have hs:=hl.m
 have hn2:=hm.n
 have hs2:=hm.m
 obtain⟨p,n,cap⟩:=s
 obtain⟨p2,n2,cap2⟩:=t
 dsimp only at hp hc hn hs hp2 hc2 hn2 hs2
 subst hn
 subst hn2
 dsimp only[Sl.v]
 have HP:=Lib.hid hp
 have HC:=Lib.hid hc
 have HP2:=Lib.hid hp2
 have HC2:=Lib.hid hc2
 clear hp hc hl hp2 hc2 hm
 have hL:=Loc.start w
 by_cases hlen:(l.length:Int)=m.length
 ·have hlen' : l.length=m.length:=by omega
  have h0:((l.length:Int) != (m.length:Int))=false:=by simp[hlen]
  have HS:=Lib.hid (show ZH l m=!j7 (fun k=>l.getD k 0 != m.getD k 0) l.length by simp[ZH,hlen'])
  have HLE:=Lib.hid hlen'
  clear hlen hlen'
  go_enter Tryz.func167,Tryz.ntmps167
  go_wp2
  go_loopw [5] (fun x wr=>∃ k:Nat,k≤l.length∧x=.int .i64 k∧(∀ j,j<k→(l.getD j 0 != m.getD j 0)=false)∧Loc w wr [] []) (fun x _=>l.length - (intOf x).toNat)
  case atStart=>exact⟨0,Nat.zero_le _,rfl,fun j hj=>absurd hj (by omega),hL⟩
  case round=>
   clear hL
   obtain⟨k,hk,rfl,hq,hL⟩:=hrel
   have HQ:=Lib.hid hq
   clear hq
   by_cases hlt:k<l.length
   ·have hlt2:k<m.length:=by rw[← HLE.out];exact hlt
    have HPC:=Lib.hid (HP.out (by omega))
    have HPC2:=Lib.hid (HP2.out (by omega))
    have HR:=Lib.hid (HC.out k hlt)
    have HR2:=Lib.hid (HC2.out k hlt2)
    generalize hx:l.getD k 0=x at HR
    generalize hy:m.getD k 0=y at HR2
    have HX:=Lib.hid hx
    have HY:=Lib.hid hy
    clear hx hy
    go_upto_region 6 with(fail)
    refine zf [17,18,19,20,21,22,23,24,25] ?_
    refine dv0 ?_
    refine dv0 ?_
    apply zb
    ·intro g w hb V;replace hL:=hL.grow hb;have d0:=yv V 0;have d1:=yv V 1;clear V;simp only[za,fLa,fLb,sTa,sTb];simp only[d0,d1]
     (simp only[HPC.out];go_wp2)
     exact cY
    simp only[apN,apC]
    apply zb
    ·intro g w hb V;replace hL:=hL.grow hb;have d2:=yv V 2;clear V;simp only[za,fLa,fLb,sTa,sTb];simp only[d2]
     refine zo HR.out hL rfl rfl ?_
     exact cY
    simp only[apN,apC]
    refine dv0 ?_
    refine dv0 ?_
    apply zb
    ·intro g w hb V;replace hL:=hL.grow hb;have d4:=yv V 4;have d5:=yv V 5;clear V;simp only[za,fLa,fLb,sTa,sTb];simp only[d4,d5]
     (simp only[HPC2.out];go_wp2)
     exact cY
    simp only[apN,apC]
    apply zb
    ·intro g w hb V;replace hL:=hL.grow hb;have d6:=yv V 6;clear V;simp only[za,fLa,fLb,sTa,sTb];simp only[d6]
     refine zo HR2.out hL rfl rfl ?_
     exact cY
    simp only[apN,apC]
    refine dv2 3 7 ?_
    refine dnd hL ?_
    clear hL;intro w2 hL;simp only[zV,sTa,sTb]
    by_cases he:x=y
    ·have h1:(x != y)=false:=by simp[he]
     have HE:=Lib.hid h1
     simp only[h1]
     clear h1 he
     go_wp2
     go_roundw
     case rel=>
      refine⟨k+1,by omega,by go_num,fun j hj=>?_,hL⟩
      rcases Nat.lt_or_ge j k with h|h
      ·exact HQ.out j h
      ·obtain rfl:j=k:=by omega
       rw[HX.out,HY.out]
       exact HE.out
     case measure=>simp[intOf];omega
    ·have h1:(x != y)=true:=by simp[he]
     have HA:=Lib.hid (qY (q:=fun k=>l.getD k 0 != m.getD k 0) hlt (by show (l.getD k 0 != m.getD k 0)=true;rw[HX.out,HY.out];exact h1))
     simp only[h1]
     clear h1 he
     go_wp2
     go_ret
     exact⟨by rw[HS.out,HA.out];rfl,hL.below⟩
   ·obtain rfl:k=l.length:=by omega
    have HA:=Lib.hid (jx HQ.out)
    go_wp2
    go_ret
    exact⟨by rw[HS.out,HA.out];rfl,hL.below⟩
 ·have h0:((l.length:Int) != (m.length:Int))=true:=by simpa using hlen
  have HS:=Lib.hid (show ZH l m=false by
   have:¬ l.length=m.length:=by omega
   simp[ZH,this])
  clear hlen
  go_enter Tryz.func167,Tryz.ntmps167
  go_wp2
  go_ret
  exact⟨by first|(rw[HS.out];done)|(rw[HS.out];rfl),hL.below⟩
section
variable {P : Program} {ops : Array Oper} {Q : Exit → Act → World → Prop}
variable {t : List Value} {df : List Deferred} {ds : List Nat} {xs : List Yld} {w0 w1 : World} {CL : Array Bool → List zj} {D : List zw} {l : Array Bool} {g : Nat → Value} {w : World} {i : Nat} {o : Oper}
structure zdn (xs:List Yld) (w0:World) (CL:Array Bool→List zj) (D:List zw) (l:Array Bool) (g:Nat→Value) (w:World):Prop where
 loc:Loc w0 w (CL l) D
 vals:∀ e∈xs,lst l e.1=true→g e.2.1=e.2.2
def zav (t:List Value) (df:List Deferred) (ds:List Nat) (xs:List Yld) (w0:World) (CL:Array Bool→List zj) (D:List zw) (l:Array Bool) (a:Act) (w:World):Prop:=
 ∃ g,a=⟨(za t ds g).toArray,df⟩∧zdn xs w0 CL D l g w
def zcm (ds:List Nat) (xs:List Yld):Bool:=decide (xs.map (·.1)).Nodup&&decide (xs.map (·.2.1)).Nodup&&xs.all (fun e=>ds.contains e.2.1)
theorem zP {d:Nat}{x:Value}(hk:zcm ds xs=true) (hx:(i,d,x)∈xs) (hI:zdn xs w0 CL D l g w) (hcl:CL (l.setIfInBounds i true)=CL l)
  (h:wpList P ops (qi ⟨(za t ds g).toArray,df⟩ d w (fun v _=>v=x)) [o] ⟨(za t ds g).toArray,df⟩ w):
  wpList P ops (yR (zav t df ds xs w0 CL D (l.setIfInBounds i true))) [o] ⟨(za t ds g).toArray,df⟩ w:=by
 simp only[zcm,Bool.and_eq_true,decide_eq_true_eq]at hk
 obtain⟨⟨k1,k2⟩,k3⟩:=hk
 have hdd:d∈ds:=by
  have:=List.all_eq_true.1 k3 (i,d,x) hx
  simpa using this
 refine JL (rest:=[]) (fun _ _ _ h=>by cases h.1) (fun _ _ h=>by cases h.1) (fun a' w' he=>?_) h
 show yR _ .normal a' w'
 obtain⟨_,v,rfl,hb,rfl⟩:=he
 refine⟨rfl,upd g d v,GM hdd,by rw[hcl];exact hI.loc.grow hb,fun e he hl=>?_⟩
 by_cases hei:e.1=i
 ·have hee:e=(i,d,v):=yS k1 e he _ hx hei
  subst hee
  simp[upd]
 ·rw[zc hei]at hl
  have hne:e.2.1≠d:=fun hd=>by
   have hee:e=(i,d,v):=yS k2 e he _ hx hd
   exact hei (congrArg Prod.fst hee)
  simp only[upd,if_neg hne]
  exact hI.vals e he hl
theorem zfE (hI:zdn xs w0 CL D l g w) (hne:xs.all (fun e=>!(e.1==i))=true) {w' : World}{L:List zj}(hL:Loc w0 w' L D) (hcl:CL (l.setIfInBounds i true)=L):
  wpList P ops (yR (zav t df ds xs w0 CL D (l.setIfInBounds i true))) [] ⟨(za t ds g).toArray,df⟩ w':=by
 show yR _ .normal _ _
 refine⟨rfl,g,rfl,by rw[hcl];exact hL,fun e he hl=>?_⟩
 have h1:=List.all_eq_true.1 hne e he
 have hei:e.1≠i:=by simpa using h1
 rw[zc hei]at hl
 exact hI.vals e he hl
theorem JT (hI:zdn xs w0 CL D l g w) (hne:xs.all (fun e=>!(e.1==i))=true) {L:List zj}(hcl:CL (l.setIfInBounds i true)=L)
  (h:wpList P ops (fun e a' w'=>e=.normal∧a'=⟨(za t ds g).toArray,df⟩∧Loc w0 w' L D) [o] ⟨(za t ds g).toArray,df⟩ w):
  wpList P ops (yR (zav t df ds xs w0 CL D (l.setIfInBounds i true))) [o] ⟨(za t ds g).toArray,df⟩ w:=by
 refine JL (rest:=[]) (fun _ _ _ h=>by cases h.1) (fun _ _ h=>by cases h.1) (fun a' w' he=>?_) h
 obtain⟨_,rfl,hL⟩:=he
 exact zfE hI hne hL hcl
def zfS (P:Program) (ops:Array Oper) (t:List Value) (df:List Deferred) (ds:List Nat) (xs:List Yld) (w0:World) (CL:Array Bool→List zj) (D:List zw) (i:Nat) (o:Oper):Prop:=
 ∀ l g w,i<l.size→zdn xs w0 CL D l g w→(∀ j∈zi o,lst l j=true)→
  wpList P ops (yR (zav t df ds xs w0 CL D (l.setIfInBounds i true))) [o] ⟨(za t ds g).toArray,df⟩ w
theorem Jy {id:Nat}{l0:List Oper}(ds:List Nat) (xs:List Yld) (CL:Array Bool→List zj) (hm:P.follows .mixedOrders=true) (hord:Region.orderB l0.toArray=true) (h0:Loc w0 w1 (CL (Array.replicate l0.toArray.size false)) D)
  (hsteps:Ym (zfS P l0.toArray t df ds xs w0 CL D) 0 l0)
  (hfin:∀ g w l,(∀ i,i<l0.length→lst l i=true)→Loc w0 w (CL l) D→(∀ e∈xs,e.1<l0.length→g e.2.1=e.2.2)→wpList P l0.toArray Q [] ⟨(za t ds g).toArray,df⟩ w):
  (Code.region id l0.toArray true).wp P Q ⟨t.toArray,df⟩ w1:=by
 refine GL (Inv:=zav t df ds xs w0 CL D) hm hord ?_ ?_ ?_
 ·refine⟨fun d=>t.getD d undef,by rw[Qy],h0.drew,fun e _ hl=>?_⟩
  unfold lst at hl;rw[getD_replicate_false]at hl;cases hl
 ·intro i o hi l a w inv hA hun V
  obtain⟨g,rfl,hI⟩:=hA
  have hi' : i<l0.toArray.size:=(Array.getElem?_eq_some_iff.1 hi).1
  have:=KS (K:=zfS P l0.toArray t df ds xs w0 CL D) (k:=0) (i:=i) (o:=o) hsteps (by simpa using hi)
  rw[Nat.zero_add]at this
  exact this l g w (by rw[inv.size];exact hi') hI V
 ·intro l a w hA hall
  obtain⟨g,rfl,hI⟩:=hA
  have hall' : ∀ i,i<l0.length→lst l i=true:=fun i hi=>hall i (by simpa using hi)
  exact hfin g w l hall' hI.loc (fun e he hi=>hI.vals e he (hall' _ hi))
theorem Zy (n k:Nat):lst (Array.replicate n false) k=false:=getD_replicate_false _ _
end
theorem zey (a b:zq) (w:World):(binOp .neq 106 (.agg #[.bool a.none,.int .i64 a.lo,.int .i64 a.hi]) (.agg #[.bool b.none,.int .i64 b.lo,.int .i64 b.hi])).run Tryz.prog w=.ok (.bool (!(a.none==b.none&&a.lo==b.lo&&a.hi==b.hi))) w:=by
 cases h1:(a.none==b.none)<;>cases h2:(a.lo==b.lo)<;>cases h3:(a.hi==b.hi)
 all_goals
  go_simp
  try simp_all
theorem zbH (x y:Operand) (a b:zq) (w:World):(eqGuard .neq 106 x y (.agg #[.bool a.none,.int .i64 a.lo,.int .i64 a.hi]) (.agg #[.bool b.none,.int .i64 b.lo,.int .i64 b.hi])).run Tryz.prog w=.ok () w:=by
 go_simp
theorem Ur {ops:Array Oper}{Q:Exit→Act→World→Prop}{act:Act}{w:World}{rest:List Oper}{d:Option Tmp}{ty u:TypeId}{pos:String}{after:Array Edge}{x y:Operand}{a b:zq}{r:Bool}(ha:act.eval x=a.v) (hb:act.eval y=b.v) (hr:(!(a.none==b.none&&a.lo==b.lo&&a.hi==b.hi))=r)
  (h:wpList Tryz.prog ops Q rest (act.put d (.bool r)) w):wpList Tryz.prog ops Q (⟨d,.binOp .neq 106 x y u,ty,pos,after,none⟩::rest) act w:=by
 subst hr
 refine zdP (w':=w) ?_ ?_ h
 ·rw[ha,hb];exact zbH x y a b w
 ·rw[ha,hb];exact zey a b w
theorem Gj {a b c d:Bool}(h1:a=c) (h2:b=d):Ending.returned (.tuple #[.bool a,.bool b])=.returned (.tuple #[.bool c,.bool d]):=by rw[h1,h2]
theorem Z6 (g:Gu) (w:World):Calls Tryz.prog 158 #[g.v] w fun e w'=>e=.returned (.tuple #[.bool (JF g),.bool (noG g)])∧Below w.heap.size w w':=by
 obtain⟨nl,⟨sn,slo,shi⟩,tr,fa,⟨sp,sc,scap⟩⟩:=g
 have hL:=Loc.start w
 go_enter Tryz.func158,Tryz.ntmps158
 go_upto_region 2 with(first|(with_reducible first|refine lld hL ?_|(refine lbx hL ?_;clear hL;intro bl w1 hL))|(go_at_call 182;refine(zgh ⟨sn,slo,shi⟩ 0 _).mono ?_;rintro e w1 ⟨rfl,hb⟩;replace hL:=hL.grow hb;clear hb;dsimp only))
 refine zf [9,10,11,12,13,14,15,16,17,18,5] ?_
 refine dv0 ?_
 refine dv1 0 ?_
 refine dv1 1 ?_
 refine dv1 2 ?_
 refine dv1 3 ?_
 refine dg0 4 ?_
 refine dg1 4 5 ?_
 refine' zG (j:=4) rfl rfl rfl (by decide) (by simp) ?_ ?_;rotate_left
 ·intro hcs;simp only[Bool.and_eq_true,jp,jq]at hcs;intro g w hb V;replace hL:=hL.grow hb;clear V;simp only[za,fLa,fLb,sTa,sTb]
  go_wp2_with (go_at_call 106;refine(yL _ _ _).mono ?_;rintro e w3 ⟨rfl,hb3⟩;dsimp only)
  exact⟨rfl,_,rfl,(by assumption),rfl⟩
 simp only[apN,apC]
 refine' zG (j:=4) rfl rfl rfl (by decide) (by simp) ?_ ?_;rotate_left
 ·intro hcs;simp only[Bool.and_eq_true,jp,jq]at hcs;intro g w hb V;replace hL:=hL.grow hb;have d6:=yv V 6;simp only[hcs,beq_self_eq_true,Bool.and_self,Bool.true_and,Bool.and_true,zr]at d6;have d7:=yv V 7;simp only[hcs,beq_self_eq_true,Bool.and_self,Bool.true_and,Bool.and_true,zr]at d7;clear V;simp only[za,fLa,fLb,sTa,sTb];simp only[d6,d7]
  refine Ur (a:=⟨sn,slo,shi⟩) (b:=⟨false,0,0⟩) rfl rfl rfl ?_;go_wp2
  exact cY
 simp only[apN,apC]
 refine dpa 4 8 ?_
 refine dv1 9 ?_
 refine dnd hL ?_
 clear hL;intro w2 hL;simp only[zV,sTa,sTb]
 go_upto_region 3 with(fail)
 refine zJ [19,20,21,22,23,24,25,26,27,28,29,30,31,32,33,34,35,36,37,38,2,3] ?_
 refine dv0 ?_
 refine dv1 0 ?_
 refine dg0 1 ?_
 refine dg1 1 2 ?_
 refine dpo 1 3 ?_
 refine dv1 4 ?_
 refine dg0 5 ?_
 refine dg1 5 6 ?_
 refine dg1 5 7 ?_
 refine dg1 5 8 ?_
 refine dpo 5 9 ?_
 refine dv0 ?_
 refine dv1 11 ?_
 refine dv1 12 ?_
 refine dg0 13 ?_
 refine dg1 13 14 ?_
 refine dpo 13 15 ?_
 refine dv1 16 ?_
 refine dg0 17 ?_
 refine dpo 17 18 ?_
 refine dv1 10 ?_
 refine dv1 19 ?_
 refine dns hL ?_
 clear hL;intro w2 hL;simp only[zV,sTa,sTb]
 go_wp2
 refine rt2 ?_
 refine⟨Gj ?_ ?_,hL.below⟩
 ·cases sn<;>simp[JF]
 ·simp[noG]
theorem Zz (g:Gu) (w:World):Calls Tryz.prog 79 #[g.v] w fun e w'=>e=.returned (.tuple #[.bool (JF g),.bool (noG g)])∧Below w.heap.size w w':=by
 obtain⟨nl,⟨sn,slo,shi⟩,tr,fa,⟨sp,sc,scap⟩⟩:=g
 have hL:=Loc.start w
 go_enter Tryz.func79,Tryz.ntmps79
 go_upto_region 1 with(first|(with_reducible refine lbx hL ?_;clear hL;intro bl w1 hL))
 refine zJ [5,6,7,8,9,10,11,12,13,14,15,16,17,18,19,20,21,22,23,24,25,26,27,28,29,30,4] ?_
 refine dv0 ?_
 refine dv1 0 ?_
 refine dv1 1 ?_
 refine dg0 2 ?_
 refine dg1 2 3 ?_
 refine dg1 2 4 ?_
 refine dg1 2 5 ?_
 refine dpo 2 6 ?_
 refine dv1 7 ?_
 refine dg0 8 ?_
 refine dg1 8 9 ?_
 refine dg1 8 10 ?_
 refine dg1 8 11 ?_
 refine dg1 8 12 ?_
 refine dc0 13 ?_
 refine dc1 13 14 ?_
 refine dc1 13 15 ?_
 refine dc1 13 16 ?_
 refine dc1 13 17 ?_
 refine dc0 18 ?_
 refine dc1 18 19 ?_
 refine dc1 18 20 ?_
 refine dc1 18 21 ?_
 refine zg4 13 18 22 ?_
 refine ZR 8 13 23 ?_
 refine dpo 8 24 ?_
 refine dv1 25 ?_
 refine dns hL ?_
 clear hL;intro w2 hL;simp only[zV,sTa,sTb]
 go_upto_region 2 with(fail)
 refine zJ [31,32,33,34,35,36,37,38,39,40,41,42,2,3] ?_
 refine dv0 ?_
 refine dv0 ?_
 refine dv1 1 ?_
 refine dv1 2 ?_
 refine dg0 3 ?_
 refine dg1 3 4 ?_
 refine dpo 3 5 ?_
 refine dv1 6 ?_
 refine dg0 7 ?_
 refine dg1 7 8 ?_
 refine' zG (j:=7) rfl rfl rfl (by decide) (by simp) ?_ ?_;rotate_left
 ·intro hcs;simp only[Bool.and_eq_true,jp,jq]at hcs;intro g w hb V;replace hL:=hL.grow hb;have d9:=yv V 9;simp only[hcs,beq_self_eq_true,Bool.and_self,Bool.true_and,Bool.and_true,zr]at d9;clear V;simp only[za,fLa,fLb,sTa,sTb];simp only[d9]
  go_wp2_with (go_at_call 80;refine(zcg ⟨sn,slo,shi⟩ 0 _).mono ?_;rintro e w3 ⟨rfl,hb3⟩;dsimp only)
  exact⟨rfl,_,rfl,(by assumption),rfl⟩
 simp only[apN,apC]
 refine dpo 7 10 ?_
 refine dv1 0 ?_
 refine dv1 11 ?_
 refine dns hL ?_
 clear hL;intro w2 hL;simp only[zV,sTa,sTb]
 go_wp2
 refine rt2 ?_
 refine⟨Gj ?_ ?_,hL.below⟩
 ·rw[Bool.eq_iff_iff];cases sn<;>cases tr<;>simp[JF]<;>omega
 ·simp[noG]
theorem VE (a b:Bool) (w:World):Calls Tryz.prog 204 #[.bool a,.bool b] w fun e w'=>e=.returned (Gu.v ⟨false,zC,a,b,zn⟩)∧Below w.heap.size w w':=by
 have hL:=Loc.start w
 go_enter Tryz.func204,Tryz.ntmps204
 go_wp2_with (first|(with_reducible first|refine lld hL ?_|(refine lal hL ?_;clear hL;intro bl w1 hL)|(refine zd hL ?_;clear hL;intro w1 hL))|(go_at_call 136;refine(jk _).mono ?_;rintro e w1 ⟨rfl,hb⟩;replace hL:=hL.grow hb;clear hb;dsimp only))
 refine rt1 ?_
 exact⟨rfl,hL.below⟩
theorem zfF (k:Int) (g h:Gu) (hn:(g.span.none || h.span.none)=true) (w:World):Calls Tryz.prog 206 #[.int .i64 k,g.v,h.v] w fun e w'=>e=.returned qu.v∧Below w.heap.size w w':=by
 have hL:=Loc.start w
 go_enter Tryz.func206,Tryz.ntmps206
 go_upto_region 3 with(first|(with_reducible first|((first|refine lbx hL ?_|refine lal hL ?_);clear hL;intro bl w1 hL)|(refine zd hL ?_;clear hL;intro w1 hL))|(go_at_call 136;refine(jk _).mono ?_;rintro e w1 ⟨rfl,hb⟩;replace hL:=hL.grow hb;clear hb;dsimp only))
 refine zJ [17,18,19,20,21,22,23,24,16] ?_
 refine dv0 ?_
 refine dv1 0 ?_
 refine dv1 1 ?_
 refine dv1 2 ?_
 refine dg0 3 ?_
 refine dg1 3 4 ?_
 refine dg1 3 5 ?_
 refine dpo 3 6 ?_
 refine dv1 7 ?_
 refine dns hL ?_
 clear hL;intro w2 hL;simp only[zV,sTa,sTb]
 simp only[hn]
 go_wp2_with (first|(with_reducible first|refine lld hL ?_|(refine zd hL ?_;clear hL;intro w1 hL)))
 refine rt1 ?_
 exact⟨rfl,hL.below⟩
theorem zez (k:Int) (hk:k=5∨k=6∨k=7) (g h:Gu) (h1:YA g.span) (h2:YA h.span) (hn:(g.span.none || h.span.none)=false) (w:World):Calls Tryz.prog 206 #[.int .i64 k,g.v,h.v] w fun e w'=>e=.returned (Gu.v ⟨false,QK k g.span h.span,false,false,zn⟩)∧Below w.heap.size w w':=by
 have HM:=Lib.hid (fun w'=>zen k hk g.span h.span h1 h2 w')
 have hk8:(k==8)=false:=beq_eq_false_iff_ne.2 (by omega)
 clear hk h1 h2
 have hL:=Loc.start w
 go_enter Tryz.func206,Tryz.ntmps206
 go_upto_region 3 with(first|(with_reducible first|((first|refine lbx hL ?_|refine lal hL ?_);clear hL;intro bl w1 hL)|(refine zd hL ?_;clear hL;intro w1 hL))|(go_at_call 136;refine(jk _).mono ?_;rintro e w1 ⟨rfl,hb⟩;replace hL:=hL.grow hb;clear hb;dsimp only))
 refine zJ [17,18,19,20,21,22,23,24,16] ?_
 refine dv0 ?_
 refine dv1 0 ?_
 refine dv1 1 ?_
 refine dv1 2 ?_
 refine dg0 3 ?_
 refine dg1 3 4 ?_
 refine dg1 3 5 ?_
 refine dpo 3 6 ?_
 refine dv1 7 ?_
 refine dns hL ?_
 clear hL;intro w2 hL;simp only[zV,sTa,sTb]
 simp only[hn]
 go_wp2_with (first|(with_reducible first|refine lld hL ?_|(refine zd hL ?_;clear hL;intro w1 hL))|(go_at_call 234;refine(HM.out _).mono ?_;rintro e w1 ⟨rfl,hb⟩;replace hL:=hL.grow hb;clear hb;dsimp only))
 refine rt1 ?_
 exact⟨rfl,hL.below⟩
theorem zeA (g h:Gu) (hn:(g.span.none || h.span.none)=false) (w:World):Calls Tryz.prog 206 #[.int .i64 8,g.v,h.v] w fun e w'=>e=.returned (Gu.v ⟨false,zC,decide (g.span.lo<h.span.hi),decide (h.span.lo≤g.span.hi),zn⟩)∧Below w.heap.size w w':=by
 obtain⟨nl,⟨gn,glo,ghi⟩,gt,gf,⟨gp,gc,gcap⟩⟩:=g
 obtain⟨hl,⟨hn',hlo,hhi⟩,ht,hf,⟨hp,hc,hcap⟩⟩:=h
 obtain⟨rfl,rfl⟩:gn=false∧hn'=false:=by simpa using hn
 clear hn
 have hL:=Loc.start w
 go_enter Tryz.func206,Tryz.ntmps206
 go_step
 go_step
 go_step
 ((with_reducible refine lbx hL ?_);clear hL;intro b4 w1 hL)
 ((with_reducible refine lbx hL ?_);clear hL;intro b5 w1 hL)
 ((with_reducible refine lal hL ?_);clear hL;intro b6 w1 hL)
 go_upto_region 1 with(fail)
 go_upto_region 3 with(first|((with_reducible refine lal hL ?_);clear hL;intro b7 w1 hL)|(with_reducible refine zd hL ?_;clear hL;intro w1 hL)|(go_at_call 136;refine(jk _).mono ?_;rintro e w1 ⟨rfl,hb⟩;replace hL:=hL.grow hb;clear hb;dsimp only))
 go_upto_region 5 with(first|(with_reducible refine lld hL ?_))
 have h0:=hL.conv (L':=(fun l=>[(b7,108,[.bool false,.bool true,.int .i64 0,.int .i64 0,bif lst l 15 then .bool (decide (glo<hhi)) else .bool false,bif lst l 17 then .bool (decide (hlo≤ghi)) else .bool false,.slice none 0 0]),(b6,108,[.bool false,.bool false,.int .i64 0,.int .i64 0,.bool false,.bool false,.slice none 0 0]),(b5,108,[.bool hl,.bool false,.int .i64 hlo,.int .i64 hhi,.bool ht,.bool hf,.slice hp hc hcap]),(b4,108,[.bool nl,.bool false,.int .i64 glo,.int .i64 ghi,.bool gt,.bool gf,.slice gp gc gcap])]) (Array.replicate 18 false)) (by simp only[Zy,cond_false])
 refine Jy (w0:=_) [28,29,30,31,32,33,34,35,36,37,38,39,40,41,42,43] [(0,28,.pointer (some ⟨b4,1,none⟩)),(1,29,.pointer (some ⟨b4,2,none⟩)),(2,30,.int .i64 glo),(3,31,.pointer (some ⟨b5,1,none⟩)),(4,32,.pointer (some ⟨b5,3,none⟩)),(5,33,.int .i64 hhi),(6,34,.bool (decide (glo<hhi))),(7,35,.pointer (some ⟨b4,1,none⟩)),(8,36,.pointer (some ⟨b4,3,none⟩)),(9,37,.int .i64 ghi),(10,38,.pointer (some ⟨b5,1,none⟩)),(11,39,.pointer (some ⟨b5,2,none⟩)),(12,40,.int .i64 hlo),(13,41,.bool (decide (hlo≤ghi))),(14,42,.pointer (some ⟨b7,4,none⟩)),(16,43,.pointer (some ⟨b7,5,none⟩))] (fun l=>[(b7,108,[.bool false,.bool true,.int .i64 0,.int .i64 0,bif lst l 15 then .bool (decide (glo<hhi)) else .bool false,bif lst l 17 then .bool (decide (hlo≤ghi)) else .bool false,.slice none 0 0]),(b6,108,[.bool false,.bool false,.int .i64 0,.int .i64 0,.bool false,.bool false,.slice none 0 0]),(b5,108,[.bool hl,.bool false,.int .i64 hlo,.int .i64 hhi,.bool ht,.bool hf,.slice hp hc hcap]),(b4,108,[.bool nl,.bool false,.int .i64 glo,.int .i64 ghi,.bool gt,.bool gf,.slice gp gc gcap])]) (by kernel_rfl) (by kernel_rfl) h0 ⟨?_,?_,?_,?_,?_,?_,?_,?_,?_,?_,?_,?_,?_,?_,?_,?_,?_,?_,trivial⟩ ?_
 all_goals clear hL h0
 ·intro l g w hi hI V
  have hL:=hI.loc
  try dsimp only at hL
  refine zP (d:=28) (x:=.pointer (some ⟨b4,1,none⟩)) (by kernel_rfl) cMm hI (by simp only[zc (show (15:Nat)≠0 by decide),zc (show (17:Nat)≠0 by decide)]) ?_
  clear V
  simp only[za,fLa,fLb,sTa,sTb]
  go_wp2
  exact cY
 ·intro l g w hi hI V
  have hL:=hI.loc
  try dsimp only at hL
  have d0:=hI.vals (0,28,.pointer (some ⟨b4,1,none⟩)) cMm (V 0 (by decide))
  try dsimp only at d0
  refine zP (d:=29) (x:=.pointer (some ⟨b4,2,none⟩)) (by kernel_rfl) cMm hI (by simp only[zc (show (15:Nat)≠1 by decide),zc (show (17:Nat)≠1 by decide)]) ?_
  clear V
  simp only[za,fLa,fLb,sTa,sTb]
  simp only[d0]
  go_wp2
  exact cY
 ·intro l g w hi hI V
  have hL:=hI.loc
  try dsimp only at hL
  have d1:=hI.vals (1,29,.pointer (some ⟨b4,2,none⟩)) cMm (V 1 (by decide))
  try dsimp only at d1
  refine zP (d:=30) (x:=.int .i64 glo) (by kernel_rfl) cMm hI (by simp only[zc (show (15:Nat)≠2 by decide),zc (show (17:Nat)≠2 by decide)]) ?_
  clear V
  simp only[za,fLa,fLb,sTa,sTb]
  simp only[d1]
  go_wp2_with (first|(with_reducible refine lld hL ?_)|(with_reducible refine ldD hL ?_))
  exact cY
 ·intro l g w hi hI V
  have hL:=hI.loc
  try dsimp only at hL
  refine zP (d:=31) (x:=.pointer (some ⟨b5,1,none⟩)) (by kernel_rfl) cMm hI (by simp only[zc (show (15:Nat)≠3 by decide),zc (show (17:Nat)≠3 by decide)]) ?_
  clear V
  simp only[za,fLa,fLb,sTa,sTb]
  go_wp2
  exact cY
 ·intro l g w hi hI V
  have hL:=hI.loc
  try dsimp only at hL
  have d3:=hI.vals (3,31,.pointer (some ⟨b5,1,none⟩)) cMm (V 3 (by decide))
  try dsimp only at d3
  refine zP (d:=32) (x:=.pointer (some ⟨b5,3,none⟩)) (by kernel_rfl) cMm hI (by simp only[zc (show (15:Nat)≠4 by decide),zc (show (17:Nat)≠4 by decide)]) ?_
  clear V
  simp only[za,fLa,fLb,sTa,sTb]
  simp only[d3]
  go_wp2
  exact cY
 ·intro l g w hi hI V
  have hL:=hI.loc
  try dsimp only at hL
  have d4:=hI.vals (4,32,.pointer (some ⟨b5,3,none⟩)) cMm (V 4 (by decide))
  try dsimp only at d4
  refine zP (d:=33) (x:=.int .i64 hhi) (by kernel_rfl) cMm hI (by simp only[zc (show (15:Nat)≠5 by decide),zc (show (17:Nat)≠5 by decide)]) ?_
  clear V
  simp only[za,fLa,fLb,sTa,sTb]
  simp only[d4]
  go_wp2_with (first|(with_reducible refine lld hL ?_)|(with_reducible refine ldD hL ?_))
  exact cY
 ·intro l g w hi hI V
  have hL:=hI.loc
  try dsimp only at hL
  have d2:=hI.vals (2,30,.int .i64 glo) cMm (V 2 (by decide))
  try dsimp only at d2
  have d5:=hI.vals (5,33,.int .i64 hhi) cMm (V 5 (by decide))
  try dsimp only at d5
  refine zP (d:=34) (x:=.bool (decide (glo<hhi))) (by kernel_rfl) cMm hI (by simp only[zc (show (15:Nat)≠6 by decide),zc (show (17:Nat)≠6 by decide)]) ?_
  clear V
  simp only[za,fLa,fLb,sTa,sTb]
  simp only[d2,d5]
  go_wp2
  exact cY
 ·intro l g w hi hI V
  have hL:=hI.loc
  try dsimp only at hL
  refine zP (d:=35) (x:=.pointer (some ⟨b4,1,none⟩)) (by kernel_rfl) cMm hI (by simp only[zc (show (15:Nat)≠7 by decide),zc (show (17:Nat)≠7 by decide)]) ?_
  clear V
  simp only[za,fLa,fLb,sTa,sTb]
  go_wp2
  exact cY
 ·intro l g w hi hI V
  have hL:=hI.loc
  try dsimp only at hL
  have d7:=hI.vals (7,35,.pointer (some ⟨b4,1,none⟩)) cMm (V 7 (by decide))
  try dsimp only at d7
  refine zP (d:=36) (x:=.pointer (some ⟨b4,3,none⟩)) (by kernel_rfl) cMm hI (by simp only[zc (show (15:Nat)≠8 by decide),zc (show (17:Nat)≠8 by decide)]) ?_
  clear V
  simp only[za,fLa,fLb,sTa,sTb]
  simp only[d7]
  go_wp2
  exact cY
 ·intro l g w hi hI V
  have hL:=hI.loc
  try dsimp only at hL
  have d8:=hI.vals (8,36,.pointer (some ⟨b4,3,none⟩)) cMm (V 8 (by decide))
  try dsimp only at d8
  refine zP (d:=37) (x:=.int .i64 ghi) (by kernel_rfl) cMm hI (by simp only[zc (show (15:Nat)≠9 by decide),zc (show (17:Nat)≠9 by decide)]) ?_
  clear V
  simp only[za,fLa,fLb,sTa,sTb]
  simp only[d8]
  go_wp2_with (first|(with_reducible refine lld hL ?_)|(with_reducible refine ldD hL ?_))
  exact cY
 ·intro l g w hi hI V
  have hL:=hI.loc
  try dsimp only at hL
  refine zP (d:=38) (x:=.pointer (some ⟨b5,1,none⟩)) (by kernel_rfl) cMm hI (by simp only[zc (show (15:Nat)≠10 by decide),zc (show (17:Nat)≠10 by decide)]) ?_
  clear V
  simp only[za,fLa,fLb,sTa,sTb]
  go_wp2
  exact cY
 ·intro l g w hi hI V
  have hL:=hI.loc
  try dsimp only at hL
  have d10:=hI.vals (10,38,.pointer (some ⟨b5,1,none⟩)) cMm (V 10 (by decide))
  try dsimp only at d10
  refine zP (d:=39) (x:=.pointer (some ⟨b5,2,none⟩)) (by kernel_rfl) cMm hI (by simp only[zc (show (15:Nat)≠11 by decide),zc (show (17:Nat)≠11 by decide)]) ?_
  clear V
  simp only[za,fLa,fLb,sTa,sTb]
  simp only[d10]
  go_wp2
  exact cY
 ·intro l g w hi hI V
  have hL:=hI.loc
  try dsimp only at hL
  have d11:=hI.vals (11,39,.pointer (some ⟨b5,2,none⟩)) cMm (V 11 (by decide))
  try dsimp only at d11
  refine zP (d:=40) (x:=.int .i64 hlo) (by kernel_rfl) cMm hI (by simp only[zc (show (15:Nat)≠12 by decide),zc (show (17:Nat)≠12 by decide)]) ?_
  clear V
  simp only[za,fLa,fLb,sTa,sTb]
  simp only[d11]
  go_wp2_with (first|(with_reducible refine lld hL ?_)|(with_reducible refine ldD hL ?_))
  exact cY
 ·intro l g w hi hI V
  have hL:=hI.loc
  try dsimp only at hL
  have d9:=hI.vals (9,37,.int .i64 ghi) cMm (V 9 (by decide))
  try dsimp only at d9
  have d12:=hI.vals (12,40,.int .i64 hlo) cMm (V 12 (by decide))
  try dsimp only at d12
  refine zP (d:=41) (x:=.bool (decide (hlo≤ghi))) (by kernel_rfl) cMm hI (by simp only[zc (show (15:Nat)≠13 by decide),zc (show (17:Nat)≠13 by decide)]) ?_
  clear V
  simp only[za,fLa,fLb,sTa,sTb]
  simp only[d9,d12]
  go_wp2
  exact cY
 ·intro l g w hi hI V
  have hL:=hI.loc
  try dsimp only at hL
  refine zP (d:=42) (x:=.pointer (some ⟨b7,4,none⟩)) (by kernel_rfl) cMm hI (by simp only[zc (show (15:Nat)≠14 by decide),zc (show (17:Nat)≠14 by decide)]) ?_
  clear V
  simp only[za,fLa,fLb,sTa,sTb]
  go_wp2
  exact cY
 ·intro l g w hi hI V
  have hL:=hI.loc
  try dsimp only at hL
  have d14:=hI.vals (14,42,.pointer (some ⟨b7,4,none⟩)) cMm (V 14 (by decide))
  try dsimp only at d14
  have d6:=hI.vals (6,34,.bool (decide (glo<hhi))) cMm (V 6 (by decide))
  try dsimp only at d6
  refine JT (i:=15) (L:=[(b7,108,[.bool false,.bool true,.int .i64 0,.int .i64 0,.bool (decide (glo<hhi)),bif lst l 17 then .bool (decide (hlo≤ghi)) else .bool false,.slice none 0 0]),(b6,108,[.bool false,.bool false,.int .i64 0,.int .i64 0,.bool false,.bool false,.slice none 0 0]),(b5,108,[.bool hl,.bool false,.int .i64 hlo,.int .i64 hhi,.bool ht,.bool hf,.slice hp hc hcap]),(b4,108,[.bool nl,.bool false,.int .i64 glo,.int .i64 ghi,.bool gt,.bool gf,.slice gp gc gcap])]) hI (by kernel_rfl) (by simp only[qO hi,zc (show (17:Nat)≠15 by decide),cond_true]) ?_
  clear V
  simp only[za,fLa,fLb,sTa,sTb]
  simp only[d14,d6]
  ((with_reducible refine zd hL ?_);clear hL;intro w1 hL)
  exact⟨rfl,rfl,hL⟩
 ·intro l g w hi hI V
  have hL:=hI.loc
  try dsimp only at hL
  refine zP (d:=43) (x:=.pointer (some ⟨b7,5,none⟩)) (by kernel_rfl) cMm hI (by simp only[zc (show (15:Nat)≠16 by decide),zc (show (17:Nat)≠16 by decide)]) ?_
  clear V
  simp only[za,fLa,fLb,sTa,sTb]
  go_wp2
  exact cY
 ·intro l g w hi hI V
  have hL:=hI.loc
  try dsimp only at hL
  have d16:=hI.vals (16,43,.pointer (some ⟨b7,5,none⟩)) cMm (V 16 (by decide))
  try dsimp only at d16
  have d13:=hI.vals (13,41,.bool (decide (hlo≤ghi))) cMm (V 13 (by decide))
  try dsimp only at d13
  refine JT (i:=17) (L:=[(b7,108,[.bool false,.bool true,.int .i64 0,.int .i64 0,bif lst l 15 then .bool (decide (glo<hhi)) else .bool false,.bool (decide (hlo≤ghi)),.slice none 0 0]),(b6,108,[.bool false,.bool false,.int .i64 0,.int .i64 0,.bool false,.bool false,.slice none 0 0]),(b5,108,[.bool hl,.bool false,.int .i64 hlo,.int .i64 hhi,.bool ht,.bool hf,.slice hp hc hcap]),(b4,108,[.bool nl,.bool false,.int .i64 glo,.int .i64 ghi,.bool gt,.bool gf,.slice gp gc gcap])]) hI (by kernel_rfl) (by simp only[qO hi,zc (show (15:Nat)≠17 by decide),cond_true]) ?_
  clear V
  simp only[za,fLa,fLb,sTa,sTb]
  simp only[d16,d13]
  ((with_reducible refine zd hL ?_);clear hL;intro w1 hL)
  exact⟨rfl,rfl,hL⟩
 intro g w2 l hl hL hX
 simp only[hl 15 (by decide),hl 17 (by decide),cond_true]at hL
 have e0:=hX (0,28,.pointer (some ⟨b4,1,none⟩)) cMm (show (0:Nat)<18 by decide)
 have e1:=hX (1,29,.pointer (some ⟨b4,2,none⟩)) cMm (show (1:Nat)<18 by decide)
 have e2:=hX (2,30,.int .i64 glo) cMm (show (2:Nat)<18 by decide)
 have e3:=hX (3,31,.pointer (some ⟨b5,1,none⟩)) cMm (show (3:Nat)<18 by decide)
 have e4:=hX (4,32,.pointer (some ⟨b5,3,none⟩)) cMm (show (4:Nat)<18 by decide)
 have e5:=hX (5,33,.int .i64 hhi) cMm (show (5:Nat)<18 by decide)
 have e6:=hX (6,34,.bool (decide (glo<hhi))) cMm (show (6:Nat)<18 by decide)
 have e7:=hX (7,35,.pointer (some ⟨b4,1,none⟩)) cMm (show (7:Nat)<18 by decide)
 have e8:=hX (8,36,.pointer (some ⟨b4,3,none⟩)) cMm (show (8:Nat)<18 by decide)
 have e9:=hX (9,37,.int .i64 ghi) cMm (show (9:Nat)<18 by decide)
 have e10:=hX (10,38,.pointer (some ⟨b5,1,none⟩)) cMm (show (10:Nat)<18 by decide)
 have e11:=hX (11,39,.pointer (some ⟨b5,2,none⟩)) cMm (show (11:Nat)<18 by decide)
 have e12:=hX (12,40,.int .i64 hlo) cMm (show (12:Nat)<18 by decide)
 have e13:=hX (13,41,.bool (decide (hlo≤ghi))) cMm (show (13:Nat)<18 by decide)
 have e14:=hX (14,42,.pointer (some ⟨b7,4,none⟩)) cMm (show (14:Nat)<18 by decide)
 have e16:=hX (16,43,.pointer (some ⟨b7,5,none⟩)) cMm (show (16:Nat)<18 by decide)
 try dsimp only at e0 e1 e2 e3 e4 e5 e6 e7 e8 e9 e10 e11 e12 e13 e14 e16
 clear hX hl
 simp only[za,fLa,fLb,sTa,sTb]
 simp only[e0,e1,e2,e3,e4,e5,e6,e7,e8,e9,e10,e11,e12,e13,e14,e16]
 clear e0 e1 e2 e3 e4 e5 e6 e7 e8 e9 e10 e11 e12 e13 e14 e16
 go_wp2_with (first|(with_reducible first|refine lld hL ?_|(refine zd hL ?_;clear hL;intro w1 hL)))
 refine rt1 ?_
 exact⟨rfl,hL.below⟩
def K0 (b:Bool):Int:=bif b then 1 else 0
def KB (a b c d:Bool):Int:=K0 a+K0 b+K0 c+K0 d
def KC (g:Gu):Bool:=((g.s.n:Int)*2+KB g.null g.tr g.fa (!g.span.none))==1&&g.span.lo==g.span.hi
def ZA (f:Nat→Bool):Nat→Int
 | 0=>0
 | k+1=>ZA f k+K0 (f k)
def jd (a b c d:Bool) (k:Nat):Bool:=if k=0 then a else if k=1 then b else if k=2 then c else d
theorem Gk (f:Nat→Bool):∀ k:Nat,0≤ZA f k∧ZA f k≤k
 | 0=>⟨Int.le_refl _,Int.le_refl _⟩
 | k+1=>by
  have:=Gk f k
  rw[ZA]
  cases f k<;>simp only[K0,cond_true,cond_false]<;>omega
theorem zeB (a b c d:Bool):ZA (jd a b c d) 4=KB a b c d:=by
 simp[ZA,jd,KB]
theorem zaw (g:Gu) (hn:g.s.n≤1000000) (w:World):Calls Tryz.prog 233 #[g.v] w fun e w'=>e=.returned (.bool (KC g))∧Below w.heap.size w w':=by
 obtain⟨nl,⟨sn,slo,shi⟩,tr,fa,⟨sp,sc,scap⟩⟩:=g
 dsimp only at hn
 have HF:=Lib.hid (show KC ⟨nl,⟨sn,slo,shi⟩,tr,fa,⟨sp,sc,scap⟩⟩=(((sc:Int)*2+ZA (jd nl tr fa (!sn)) 4)==1&&slo==shi) by rw[zeB];rfl)
 have hL:=Loc.start w
 go_enter Tryz.func233,Tryz.ntmps233
 go_step
 go_step
 go_step
 ((with_reducible refine lbx hL ?_);clear hL;intro b2 w1 hL)
 go_wp2_with (first|(with_reducible first|refine lld hL ?_|(refine lbs hL ?_;clear hL;intro bl w1 hL)))
 obtain⟨b10,hb10⟩:∃ x,x=bl:=⟨_,rfl⟩
 subst hb10
 have HB:=Lib.hid (fun (k:Nat) (h:k<4)=>show ([.bool nl,.bool tr,.bool fa,.bool (!sn)]:List Value)[k]? = some (.bool (jd nl tr fa (!sn) k)) by
  rcases k with _|_|_|_|k<;>first|rfl|omega)
 go_loopw [3,22] (fun c3 c22 wr=>∃ k:Nat,k≤4∧c3=.int .i64 ((sc:Int)*2+ZA (jd nl tr fa (!sn)) k)∧c22=.int .i64 k∧Loc w wr [(b10,4,[.bool nl,.bool tr,.bool fa,.bool (!sn)]),(b2,108,[.bool nl,.bool sn,.int .i64 slo,.int .i64 shi,.bool tr,.bool fa,.slice sp sc scap])] []) (fun _ c _=>4 - (intOf c).toNat)
 case atStart=>exact⟨0,Nat.zero_le _,by simp[ZA],rfl,hL⟩
 case round=>
  obtain⟨k,hk,rfl,rfl,hL⟩:=hrel
  rcases (show k=4∨k<4 by omega) with rfl|hlt
  ·generalize ZA (jd nl tr fa (!sn)) 4=c at HF ⊢
   by_cases h1:(sc:Int)*2+c=1
   ·have HX:=Lib.hid h1
    simp only[h1]
    clear h1
    by_cases h2:slo=shi
    ·subst h2
     go_wp2_with (first|(with_reducible refine lld hL ?_))
     refine rt1 ?_
     exact⟨by rw[HF.out,HX.out];simp,hL.below⟩
    ·have k2:(slo==shi)=false:=beq_eq_false_iff_ne.2 h2
     have HK:=Lib.hid k2
     clear h2
     go_wp2_with (first|(with_reducible refine lld hL ?_))
     refine rt1 ?_
     exact⟨by rw[HF.out,HK.out];simp,hL.below⟩
   ·have k1:((sc:Int)*2+c==1)=false:=beq_eq_false_iff_ne.2 h1
    have HX:=Lib.hid k1
    clear h1
    go_wp2
    refine rt1 ?_
    exact⟨by rw[HF.out,HX.out];simp,hL.below⟩
  ·have hb:=HB.out k hlt
   have HC:=Lib.hid (Gk (jd nl tr fa (!sn)) k)
   have hs:ZA (jd nl tr fa (!sn)) (k+1)=ZA (jd nl tr fa (!sn)) k+K0 (jd nl tr fa (!sn) k):=rfl
   generalize ZA (jd nl tr fa (!sn)) k=c at HC hs ⊢
   generalize jd nl tr fa (!sn) k=x at hb hs
   have hc:=HC.out
   cases x with
   | true=>
    have HS:=Lib.hid (hs.trans (show c+K0 true=c+1 from rfl))
    clear hs
    go_wp2_with (first|(refine zR (b:=b10) hL rfl rfl cIn (ze.cell Zh hb) ?_))
    go_roundw
    case rel=>exact⟨k+1,by omega,by first|(rw[HS.out];done)|(rw[HS.out];go_num),by go_num,hL⟩
    case measure=>simp[intOf];omega
   | false=>
    have HS:=Lib.hid (hs.trans (show c+K0 false=c from Int.add_zero c))
    clear hs
    go_wp2_with (first|(refine zR (b:=b10) hL rfl rfl cIn (ze.cell Zh hb) ?_))
    go_roundw
    case rel=>exact⟨k+1,by omega,by first|(rw[HS.out];done)|(rw[HS.out];go_num),by go_num,hL⟩
    case measure=>simp[intOf];omega
def Qq (f:Nat→Bool):Nat→Int
 | 0=>-1
 | k+1=>bif f k then (k:Int) else Qq f k
def ye (g:Gu):Int:=bif (KB g.null (!g.span.none) g.tr g.fa != 1) || decide (0<g.s.n) || (g.span.lo != g.span.hi) then -1 else Qq (jd g.null (!g.span.none) g.tr g.fa) 4
theorem Us (g:Gu) (w:World):Calls Tryz.prog 122 #[g.v] w fun e w'=>e=.returned (.int .i64 (ye g))∧Below w.heap.size w w':=by
 obtain⟨nl,⟨sn,slo,shi⟩,tr,fa,⟨sp,sc,scap⟩⟩:=g
 have HF:=Lib.hid (show ye ⟨nl,⟨sn,slo,shi⟩,tr,fa,⟨sp,sc,scap⟩⟩=bif (ZA (jd nl (!sn) tr fa) 4 != 1) || decide (0<sc) || (slo != shi) then -1 else Qq (jd nl (!sn) tr fa) 4 by rw[zeB];rfl)
 have hL:=Loc.start w
 go_enter Tryz.func122,Tryz.ntmps122
 go_step
 go_step
 go_step
 ((with_reducible refine lbx hL ?_);clear hL;intro b2 w1 hL)
 go_wp2_with (first|(with_reducible first|refine lld hL ?_|(refine lbs hL ?_;clear hL;intro bl w1 hL)))
 obtain⟨b10,hb10⟩:∃ x,x=bl:=⟨_,rfl⟩
 subst hb10
 have HB:=Lib.hid (fun (k:Nat) (h:k<4)=>show ([.bool nl,.bool (!sn),.bool tr,.bool fa]:List Value)[k]? = some (.bool (jd nl (!sn) tr fa k)) by
  rcases k with _|_|_|_|k<;>first|rfl|omega)
 go_loopw [3,4,6] (fun c3 c4 c6 wr=>∃ k:Nat,k≤4∧c3=.int .i64 (ZA (jd nl (!sn) tr fa) k)∧c4=.int .i64 (Qq (jd nl (!sn) tr fa) k)∧c6=.int .i64 k∧Loc w wr [(b10,4,[.bool nl,.bool (!sn),.bool tr,.bool fa]),(b2,108,[.bool nl,.bool sn,.int .i64 slo,.int .i64 shi,.bool tr,.bool fa,.slice sp sc scap])] []) (fun _ _ c _=>4 - (intOf c).toNat)
 case atStart=>exact⟨0,Nat.zero_le _,rfl,rfl,rfl,hL⟩
 case round=>
  obtain⟨k,hk,rfl,rfl,rfl,hL⟩:=hrel
  rcases (show k=4∨k<4 by omega) with rfl|hlt
  ·generalize ZA (jd nl (!sn) tr fa) 4=c at HF ⊢
   generalize Qq (jd nl (!sn) tr fa) 4=z at HF ⊢
   go_upto_region 9 with(fail)
   refine zJ [29,30,31,32,33,34,35,36,37,38,39,40,41,42,43,44,45] ?_
   refine dv0 ?_
   refine dv1 0 ?_
   refine dv1 1 ?_
   refine dg0 2 ?_
   refine dg1 2 3 ?_
   refine dg1 2 4 ?_
   refine dg1 2 5 ?_
   refine dpo 2 6 ?_
   refine dv1 7 ?_
   refine dg0 8 ?_
   refine dg1 8 9 ?_
   refine dg1 8 10 ?_
   refine dg0 8 ?_
   refine dg1 8 12 ?_
   refine dg1 8 13 ?_
   refine dg2 8 11 14 ?_
   refine dpo 8 15 ?_
   refine dns hL ?_
   clear hL;intro w2 hL;simp only[zV,sTa,sTb]
   generalize ((c != 1) || decide (0<sc) || (slo != shi))=d at HF ⊢
   cases d with
   | true=>
    go_wp2
    refine rt1 ?_
    exact⟨by rw[HF.out];rfl,hL.below⟩
   | false=>
    go_wp2
    refine rt1 ?_
    exact⟨by rw[HF.out];rfl,hL.below⟩
  ·have hb:=HB.out k hlt
   have HC:=Lib.hid (Gk (jd nl (!sn) tr fa) k)
   have hs:ZA (jd nl (!sn) tr fa) (k+1)=ZA (jd nl (!sn) tr fa) k+K0 (jd nl (!sn) tr fa k):=rfl
   have hz:Qq (jd nl (!sn) tr fa) (k+1)=bif jd nl (!sn) tr fa k then (k:Int) else Qq (jd nl (!sn) tr fa) k:=rfl
   generalize ZA (jd nl (!sn) tr fa) k=c at HC hs ⊢
   generalize Qq (jd nl (!sn) tr fa) k=z at hz ⊢
   generalize jd nl (!sn) tr fa k=x at hb hs hz
   have hc:=HC.out
   cases x with
   | true=>
    have HS:=Lib.hid (hs.trans (show c+K0 true=c+1 from rfl))
    have HZ:=Lib.hid hz
    clear hs hz
    go_wp2_with (first|(refine zR (b:=b10) hL rfl rfl cIn (ze.cell Zh hb) ?_))
    go_roundw
    case rel=>exact⟨k+1,by omega,by first|(rw[HS.out];done)|(rw[HS.out];go_num),by first|(rw[HZ.out];done)|(rw[HZ.out];go_num),by go_num,hL⟩
    case measure=>simp[intOf];omega
   | false=>
    have HS:=Lib.hid (hs.trans (show c+K0 false=c from Int.add_zero c))
    have HZ:=Lib.hid hz
    clear hs hz
    go_wp2_with (first|(refine zR (b:=b10) hL rfl rfl cIn (ze.cell Zh hb) ?_))
    go_roundw
    case rel=>exact⟨k+1,by omega,by first|(rw[HS.out];done)|(rw[HS.out];go_num),by first|(rw[HZ.out];done)|(rw[HZ.out];rfl),by go_num,hL⟩
    case measure=>simp[intOf];omega
def Q7 (B:Nat) (w:World) (s:Sl) (l:List Int):Prop:=∃ R:List zj,zM 3 1 s.p s.n s.cap (l.map (Value.int .i64)) R∧Own B w R
theorem Q7.ints {B:Nat}{w:World}{s:Sl}{l:List Int}(h:Q7 B w s l):zp w s l:=by
 obtain⟨R,hr,ho⟩:=h
 exact hr.ints ho
theorem Q7.nil {B:Nat}{w:World}:Q7 B w zn []:=⟨[],zM.nil,Own.nil⟩
theorem Q7.grow {B:Nat}{w w' : World}{s:Sl}{l:List Int}(h:Q7 B w s l) (hb:Below w.heap.size w w'):Q7 B w' s l:=by
 obtain⟨R,hr,ho⟩:=h
 exact⟨R,hr,ho.grow hb⟩
theorem Q7.mono {B B' : Nat}{w:World}{s:Sl}{l:List Int}(h:Q7 B w s l) (hB:B'≤B):Q7 B' w s l:=by
 obtain⟨R,hr,ho⟩:=h
 exact⟨R,hr,ho.mono hB⟩
def zeC (B:Nat) (w:World) (s0:Sl) (l0:List Int) (s:Sl) (l:List Int):Prop:=∃ R:List zj,(s=s0∧l=l0∧R=[]∨zM 3 1 s.p s.n s.cap (l.map (Value.int .i64)) R)∧Own B w R
theorem zeC.self {B:Nat}{w:World}{s:Sl}{l:List Int}:zeC B w s l s l:=⟨[],.inl ⟨rfl,rfl,rfl⟩,Own.nil⟩
theorem Q7.kept {B:Nat}{w:World}{s0:Sl}{l0:List Int}{s:Sl}{l:List Int}(h:Q7 B w s l):zeC B w s0 l0 s l:=by
 obtain⟨R,hr,ho⟩:=h
 exact⟨R,.inr hr,ho⟩
section
variable {P : Program} {ops : Array Oper} {Q : Exit → Act → World → Prop} {a : Act} {w0 w : World} {rest : List Oper} {L : List zj} {D : List zw}
 {d:Option Tmp} {ty:TypeId} {pos:String} {after:Array Edge} {g:Option (Nat × Bool)}
theorem ldB {T:TypeId}{x:Operand}{b off:Nat}{v:Value}(hr:zg P T w0 b off v) (hL:Loc w0 w L D) (h:wpList P ops Q rest (a.put d v) w)
  (hx:a.eval x=.pointer (some ⟨b,off,none⟩):=by with_unfolding_all rfl)
  (hw:Region.wanted ⟨d,.load T x,ty,pos,after,g⟩ (yielded ops a.tmps)=true:=by with_unfolding_all (first|(with_reducible exact jB)|(refine Qa rfl ?_;(simp only[Act.put,List.setIfInBounds_toArray,List.set_cons_zero,List.set_cons_succ,List.getElem?_toArray,List.getElem?_cons_succ,List.getElem?_cons_zero]);done)|(refine Qa rfl ?_;(simp only[Act.put,List.setIfInBounds_toArray,List.set_cons_zero,List.set_cons_succ,List.getElem?_toArray,List.getElem?_cons_succ,List.getElem?_cons_zero,Option.some.injEq,Value.bool.injEq]);assumption))):wpList P ops Q (⟨d,.load T x,ty,pos,after,g⟩::rest) a w:=zo hr hL hw hx h
theorem ldO {T:TypeId}{x:Operand}{b off:Nat}{Tb:TypeId}{cs:List Value}{f:List Value→List zj}{v:Value}(hv:ze P T cs off v) (hL:Loc w0 w L D) (h:wpList P ops Q rest (a.put d v) w)
  (hx:a.eval x=.pointer (some ⟨b,off,none⟩):=by with_unfolding_all rfl)
  (hm:InL b Tb cs L f:=by with_unfolding_all ((repeat (first|exact InL.head|apply InL.tail))<;>fail))
  (hw:Region.wanted ⟨d,.load T x,ty,pos,after,g⟩ (yielded ops a.tmps)=true:=by with_unfolding_all (first|(with_reducible exact jB)|(refine Qa rfl ?_;(simp only[Act.put,List.setIfInBounds_toArray,List.set_cons_zero,List.set_cons_succ,List.getElem?_toArray,List.getElem?_cons_succ,List.getElem?_cons_zero]);done)|(refine Qa rfl ?_;(simp only[Act.put,List.setIfInBounds_toArray,List.set_cons_zero,List.set_cons_succ,List.getElem?_toArray,List.getElem?_cons_succ,List.getElem?_cons_zero,Option.some.injEq,Value.bool.injEq]);assumption))):wpList P ops Q (⟨d,.load T x,ty,pos,after,g⟩::rest) a w:=zR hL hw hx hm hv h
end
end Go.Proofs.YtplcndmdkabmeaaGreatDoor
