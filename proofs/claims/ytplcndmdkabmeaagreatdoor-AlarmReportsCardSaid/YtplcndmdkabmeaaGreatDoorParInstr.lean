/- The walk over the package code's instr: the instruction of a line. Conditions: the line is not too long; the library's variables. -/
import Derived.Test.YtplcndmdkabmeaaGreatDoorMapRange
import Derived.Test.YtplcndmdkabmeaaGreatDoorParHead
import Derived.Test.YtplcndmdkabmeaaGreatDoorCop
set_option linter.unusedSimpArgs false
set_option linter.unusedVariables false
set_option maxRecDepth 100000
set_option maxHeartbeats 1600000
namespace Go.Proofs.YtplcndmdkabmeaaGreatDoor
open Go.RowKit
abbrev Zx:Array MapEntry:=(jo qV).toArray
theorem XF {e:MapEntry}(h:e∈Zx.toList):∃ k:Int,z6 k 1 19=true∧e=⟨.int .i64 k,.agg #[.string (Qv k),.string (zK k)],(k - 1).toNat⟩:=by
 simp only[jo,qV,List.zipIdx_cons,List.zipIdx_nil,List.map_cons,List.map_nil,List.mem_cons,List.not_mem_nil,or_false]at h
 rcases h with rfl|rfl|rfl|rfl|rfl|rfl|rfl|rfl|rfl|rfl|rfl|rfl|rfl|rfl|rfl|rfl|rfl|rfl|rfl
 ·exact⟨1,rfl,rfl⟩
 ·exact⟨2,rfl,rfl⟩
 ·exact⟨3,rfl,rfl⟩
 ·exact⟨4,rfl,rfl⟩
 ·exact⟨5,rfl,rfl⟩
 ·exact⟨6,rfl,rfl⟩
 ·exact⟨7,rfl,rfl⟩
 ·exact⟨8,rfl,rfl⟩
 ·exact⟨9,rfl,rfl⟩
 ·exact⟨10,rfl,rfl⟩
 ·exact⟨11,rfl,rfl⟩
 ·exact⟨12,rfl,rfl⟩
 ·exact⟨13,rfl,rfl⟩
 ·exact⟨14,rfl,rfl⟩
 ·exact⟨15,rfl,rfl⟩
 ·exact⟨16,rfl,rfl⟩
 ·exact⟨17,rfl,rfl⟩
 ·exact⟨18,rfl,rfl⟩
 ·exact⟨19,rfl,rfl⟩
theorem zdk {k:Int}(h:z6 k 1 19=true):(⟨.int .i64 k,.agg #[.string (Qv k),.string (zK k)],(k - 1).toNat⟩:MapEntry)∈Zx.toList:=by
 simp only[jo,qV,List.zipIdx_cons,List.zipIdx_nil,List.map_cons,List.map_nil]
 rcases jF h with rfl|rfl|rfl|rfl|rfl|rfl|rfl|rfl|rfl|rfl|rfl|rfl|rfl|rfl|rfl|rfl|rfl|rfl|rfl
 all_goals
  repeat (first|exact List.mem_cons_self|apply List.mem_cons_of_mem)
theorem VB:∀ e∈Zx.toList,e.born<qV.length:=fun e he=>by
 obtain⟨k,hk,rfl⟩:=XF he
 simp[z6]at hk
 show (k - 1).toNat<19
 omega
theorem zar:(Zx.toList.map (·.born)).Nodup:=by
 simp[jo,qV]
def zas (wd:Byt) (n:Nat) (seen:Array Nat):Prop:=∀ k,z6 k 1 19=true→seen.contains (k - 1).toNat=true→qQ k≠wd∨n≠(zK k).size
theorem zat (wd:Byt) (n:Nat):zas wd n #[]:=fun k _ h=>by simp at h
theorem zbz {wd:Byt}{n:Nat}{seen:Array Nat}{k:Int}(h:zas wd n seen) (hk:z6 k 1 19=true) (hn:qQ k≠wd∨n≠(zK k).size):zas wd n (seen.push (k - 1).toNat):=fun j hj hc=>by
 rw[contains_push]at hc
 rcases Bool.or_eq_true _ _▸hc with h1|h1
 ·exact h j hj h1
 ·have:(j - 1).toNat=(k - 1).toNat:=beq_iff_eq.1 h1
  simp[z6]at hk hj
  obtain rfl:j=k:=by omega
  exact hn
theorem zbA {wd:Byt}{args:List Byt}{seen:Array Nat}(h:zas wd args.length seen) (hz:(leftOf Zx seen).size=0):Qo (wd::args)=none:=by
 unfold Qo
 dsimp only
 cases hk:Un wd with
 | none=>rfl
 | some k=>
  obtain⟨h1,h2⟩:=Y5 hk
  have h3:=h k h1 (all_seen _ _ hz _ (zdk h1))
  rcases h3 with h3|h3
  ·exact absurd h2 h3
  ·dsimp only
   rw[if_neg (fun h4=>h3 h4.1)]
theorem zau {k:Int}(hk:z6 k 1 19=true) {args:List Byt}(hl:args.length=(zK k).size):Qo (qQ k::args)=if args.all yo=true then some (QO (zK k) k (fun j=>QM (args.getD j [])) (zK k).size) else none:=by
 unfold Qo
 dsimp only
 rw[Vz hk]
 dsimp only
 by_cases h:args.all yo=true
 ·rw[if_pos ⟨hl,h⟩,if_pos h]
 ·rw[if_neg (fun h4=>h h4.2),if_neg h]
theorem zfD (i:Ins) (c v:Int):zk i.cells (V2 c) [.int .i64 v]=(zap i c v).cells:=by
 unfold V2 zap
 by_cases h1:c=118
 ·simp[h1,zk]
 ·by_cases h2:c=97
  ·simp[h2,zk]
  ·by_cases h3:c=98
   ·simp[h3,zk]
   ·by_cases h4:c=103
    ·simp[h4,zk]
    ·simp[h1,h2,h3,h4,zk]
theorem zdl (s:ByteArray) (hs:s.size≤1000000) (w:World) (hg:yI w):
  Calls Tryz.prog 69 #[.string s] w fun e w'=>e=.returned (.tuple #[((jZ s.data.toList).getD (Qn 0)).v,.bool (jZ s.data.toList).isSome])∧Below w.heap.size w w':=by
 have HG:=Lib.hid hg
 have HS:=Lib.hid (fun w' (hb' : Below w.heap.size w w')=>zdB s 32 hs w' (hg.grow hb'))
 have HLN:=Lib.hid (fun p (hp:p∈zE 32 s.data.toList)=>Nat.le_trans (yz hp) (by rw[Array.length_toList];exact hs:s.data.toList.length≤1000000))
 have hsz:s.data.toList.length≤1000000:=by rw[Array.length_toList];exact hs
 have HPC:=Lib.hid (Nat.le_trans (yd 32 s.data.toList) (Nat.succ_le_succ hsz))
 unfold jZ
 cases hps:zE 32 s.data.toList with
 | nil=>exact absurd hps (jK _ _)
 | cons wd args=>
 rw[hps]at HS HLN HPC
 have hal:args.length≤1000000:=by have:=HPC.out;simpa using this
 clear hg hps hsz HPC
 generalize hres:Qo (wd::args)=res
 have HRES:=Lib.hid hres
 clear hres
 have hL:=Loc.start w
 go_enter Tryz.func69,Tryz.ntmps69
 go_wp2_with (first|(go_at_call 114;refine(HS.out _ hL.below).mono ?_;rintro e w3 ⟨bq,rfl,hq⟩;replace hL:=hL.gave hq;clear hq;simp only[List.nil_append,List.append_nil,List.map_cons,List.map_nil,List.cons_append]at hL;(try dsimp only[List.length_cons,List.length_nil]);(try dsimp only))|(go_at_call 116;refine(Y7 _).mono ?_;rintro e w3 ⟨bm,rfl,hge,hm,hb3⟩;replace hL:=hL.more hb3 (Qc.fresh hge hm);clear hb3 hge hm;dsimp only)|(refine zcZ UF hL rfl ?_;clear hL;intro br w1 hL)|(with_reducible refine lal hL ?_;clear hL;intro bl w1 hL))
 simp only[Act.put,List.setIfInBounds_toArray,List.set_cons_succ,List.set_cons_zero]
 go_loopw [] (fun wr=>∃ seen,zas wd args.length seen∧Loc w wr [(bl,86,(Qn 0).cells),(bq,9,yM wd::List.map yM args)] [yb br bm qV.length seen qV.length,Qc bm Zx qV.length]) (fun wr=>(leftOf Zx (wr.iterSeen br)).size)
 case atStart=>exact⟨#[],zat _ _,hL⟩
 case round=>
  clear hL
  obtain⟨seen,hps,hL⟩:=hrel
  have HPS:=Lib.hid hps
  have HSE:=Lib.hid (yb.seen (hL.get List.mem_cons_self))
  clear hps
  by_cases hz:(leftOf Zx seen).size=0
  ·have HN:=Lib.hid (zbA HPS.out hz)
   have HZ:=Lib.hid hz
   clear hz
   go_wp2_with (first|(refine zc0 HZ.out hL VB rfl ?_)|(with_reducible refine zd hL ?_;clear hL;intro w1 hL))
   refine rt2 ?_
   exact⟨by rw[← HRES.out,HN.out];rfl,hL.below⟩
  ·have HZ:=Lib.hid hz
   clear hz
   go_upto_region 5 with(first|(refine zc1 HZ.out hL VB rfl ?_;clear hL;intro e w1 he hL;obtain⟨k,hk,hek⟩:=XF (mem_left he).1;subst hek;have HE:=Lib.hid he;have HK:=Lib.hid hk;clear he hk;dsimp only)|(refine zc2 hL (mem_left HE.out).1 zar rfl ?_;dsimp only)|((with_reducible refine lal hL ?_);clear hL;intro b6 w1 hL)|(with_reducible refine zd hL ?_;clear hL;intro w1 hL))
   refine zf [20,21,22,23,24,25,26,27,28,29,30,31,32,33,34] ?_
   refine dv0 ?_
   refine dv1 0 ?_
   refine dv0 ?_
   refine dv1 2 ?_
   refine dv1 3 ?_
   refine dv2 1 4 ?_
   refine dv1 5 ?_
   refine dg0 6 ?_
   refine dg1 6 7 ?_
   refine dg0 6 ?_
   refine dg1 6 9 ?_
   refine dg1 6 10 ?_
   refine dg1 6 11 ?_
   refine dg2 6 8 12 ?_
   refine dpo 6 13 ?_
   refine dnd hL ?_
   clear hL;intro w2 hL;simp only[zV,sTa,sTb]
   have hcond:((!((Qv k).toList==wd)) || ((args.length:Int)+1 != wrap64 (1+((zK k).size:Int))))=!(decide (qQ k=wd∧args.length=(zK k).size)):=by
    have h3:=Je HK.out
    rw[Go.IntWalk.wrap64_in _ (by omega),Lib.toList_data]
    by_cases h1:(Qv k).data.toList=wd
    ·by_cases h2:args.length=(zK k).size
     ·rw[show decide (qQ k=wd∧args.length=(zK k).size)=true from decide_eq_true ⟨h1,h2⟩,h1,h2]
      simp
      omega
     ·rw[show decide (qQ k=wd∧args.length=(zK k).size)=false from decide_eq_false (fun h=>h2 h.2),h1]
      simp
      omega
    ·rw[show decide (qQ k=wd∧args.length=(zK k).size)=false from decide_eq_false (fun h=>h1 h.1)]
     simp[h1]
   simp only[hcond]
   clear hcond
   cases hm:decide (qQ k=wd∧args.length=(zK k).size) with
   | false=>
    have HM:=Lib.hid (of_decide_eq_false hm)
    clear hm
    go_wp2
    go_roundw
    case rel=>exact⟨seen.push (k - 1).toNat,zbz HPS.out HK.out (by by_cases h1:qQ k=wd;exact .inr (fun h2=>HM.out ⟨h1,h2⟩);exact .inl h1),hL.drop (List.sublist_cons_self _ _) (fun _ h=>h)⟩
    case measure=>
     rw[yb.seen (hL.get List.mem_cons_self),HSE.out]
     exact left_shrinks _ _ _ HE.out
   | true=>
    obtain⟨hw1,hw2⟩:=of_decide_eq_true hm
    clear hm
    subst hw1
    have hww:((Qv k).toList==qQ k)=true:=by rw[Lib.toList_data];exact beq_self_eq_true _
    simp only[hww,Bool.not_true,cnd,if_true,beq_self_eq_true]
    clear hww
    have HIK:=Lib.hid (zau HK.out hw2)
    have hfew:=Je HK.out
    have HNM:=Lib.hid (fun j (hj:j<args.length) w' (hb' : Below w.heap.size w w')=>XS (args.getD j []) (HLN.out _ (List.mem_cons_of_mem _ (by rw[List.getD_eq_getElem?_getD,List.getElem?_eq_getElem hj];exact List.getElem_mem hj))) w' (HG.out.grow hb'))
    generalize hvs:(fun j=>QM (args.getD j []))=vs at HIK
    have HVS:=Lib.hid hvs
    clear hvs
    generalize hnb:(fun j=>yo (args.getD j []))=nb
    have HNB:=Lib.hid hnb
    clear hnb
    generalize zK k=ns at HIK hfew hw2 hL ⊢
    have HW:=Lib.hid hw2
    clear hw2
    go_wp2_with (first|((with_reducible refine lal hL ?_);clear hL;intro b7 w1 hL)|(with_reducible first|refine lld hL ?_|(refine zd hL ?_;clear hL;intro w1 hL)))
    go_loopw [40] (fun c wr=>∃ j:Nat,j≤ns.size∧c=.int .i64 j∧(∀ t,t<j→nb t=true)∧Loc w wr [(b7,86,(QO ns k vs j).cells),(b6,162,[.string (Qv k),.string ns]),(bl,86,(Qn 0).cells),(bq,9,yM (qQ k)::List.map yM args)] [yb br bm qV.length (seen.push (k - 1).toNat) qV.length,Qc bm Zx qV.length]) (fun c _=>ns.size - (intOf c).toNat)
    case atStart=>exact⟨0,Nat.zero_le _,rfl,fun t ht=>absurd ht (Nat.not_lt_zero t),hL⟩
    case round=>
     clear hL
     obtain⟨j,hj,rfl,hall,hL⟩:=hrel
     have HALL:=Lib.hid hall
     clear hall
     by_cases hlt:j<ns.size
     ·have hja:j<args.length:=by rw[HW.out];exact hlt
      have hn1:=HNM.out j hja
      have hvj:QM (args.getD j [])=vs j:=by rw[← HVS.out]
      have hbj:yo (args.getD j [])=nb j:=by rw[← HNB.out]
      have HRD:=Lib.hid (show (yM (qQ k)::List.map yM args)[1+j]? = some (yM (args.getD j [])) by
       rw[Nat.add_comm,List.getElem?_cons_succ,List.getElem?_map,List.getD_eq_getElem?_getD,List.getElem?_eq_getElem hja];rfl)
      rw[hvj,hbj]at hn1
      have HBJ:=Lib.hid hbj
      clear hvj hbj
      generalize args.getD j []=aj at hn1 HRD HBJ
      cases hq:nb j with
      | false=>
       rw[hq]at hn1
       have HN1:=Lib.hid hn1
       have HR0:=Lib.hid (show res=none by
        rw[← HRES.out,HIK.out,if_neg]
        intro h
        have h2:=List.all_eq_true.1 h (args[j]'hja) (List.getElem_mem hja)
        have h3:nb j=yo args[j]:=by rw[← HNB.out];simp only[List.getD_eq_getElem?_getD,List.getElem?_eq_getElem hja,Option.getD_some]
        rw[← h3,hq]at h2
        cases h2)
       clear hn1 hq
       go_wp2_with (first|(go_at_call 115;refine(HN1.out _ hL.below).mono ?_;rintro e w1 ⟨rfl,hb⟩;replace hL:=hL.grow hb;clear hb;dsimp only)|(refine zR (b:=bq) hL jB rfl cIn (ze.cell j0 (HRD.out)) ?_)|(with_reducible refine zd hL ?_;clear hL;intro w1 hL))
       refine rt2 ?_
       exact⟨by rw[HR0.out];rfl,hL.below⟩
      | true=>
       rw[hq]at hn1
       have HN1:=Lib.hid hn1
       have HQ:=Lib.hid hq
       clear hn1 hq
       go_wp2_with (first|(go_at_call 115;refine(HN1.out _ hL.below).mono ?_;rintro e w1 ⟨rfl,hb⟩;replace hL:=hL.grow hb;clear hb;dsimp only)|(refine zR (b:=bq) hL jB rfl cIn (ze.cell j0 (HRD.out)) ?_)|(go_at_call 117;refine(KG b7 _ _).mono ?_;rintro e w' ⟨rfl,rfl⟩;dsimp only)|(refine qa (b:=b7) (vs:=[.int .i64 (vs j)]) (cs':=(zap (QO ns k vs j) ((ns[j]'hlt).toNat:Int) (vs j)).cells) hL jB rfl cIn rfl QQ.sz rfl (zcf _) (zfD _ _ _) ?_;clear hL;intro w1 hL)|(with_reducible refine lld hL ?_))
       go_roundw
       case rel=>
        refine⟨j+1,by omega,by go_num,fun t ht=>?_,hL.conv (by rw[Yp hlt];rfl)⟩
        rcases Nat.lt_or_ge t j with h|h
        ·exact HALL.out t h
        ·obtain rfl:t=j:=by omega
         exact HQ.out
       case measure=>simp[intOf];omega
     ·obtain rfl:j=ns.size:=by omega
      have HR0:=Lib.hid (show res=some (QO ns k vs ns.size) by
       rw[← HRES.out,HIK.out,if_pos]
       rw[List.all_eq_true]
       intro p hp
       obtain⟨t,ht,rfl⟩:=List.mem_iff_getElem.1 hp
       have h3:nb t=yo args[t]:=by rw[← HNB.out];simp only[List.getD_eq_getElem?_getD,List.getElem?_eq_getElem ht,Option.getD_some]
       rw[← h3]
       exact HALL.out t (by rw[← HW.out];exact ht))
      clear hlt
      generalize QO ns k vs ns.size=fi at HR0 hL
      go_wp2_with (first|(with_reducible first|refine lld hL ?_|(refine zd hL ?_;clear hL;intro w1 hL)))
      refine rt2 ?_
      exact⟨by rw[HR0.out];rfl,hL.below⟩
end Go.Proofs.YtplcndmdkabmeaaGreatDoor
