import Derived.Test.YtplcndmdkabmeaaGreatDoorMapRange
import Derived.Test.YtplcndmdkabmeaaGreatDoorParHead
import Derived.Test.YtplcndmdkabmeaaGreatDoorCop
set_option linter.unusedSimpArgs false
set_option linter.unusedVariables false
set_option maxRecDepth 100000
set_option maxHeartbeats 1600000
namespace Go.Proofs.YtplcndmdkabmeaaGreatDoor
open Go.RowKit
abbrev shapeE:Array MapEntry:=(rowsOf shapeL).toArray
theorem shape_mem {e:MapEntry}(h:e∈shapeE.toList):∃ k:Int,betw k 1 19=true∧e=⟨.int .i64 k,.agg #[.string (wordS k),.string (namesS k)],(k - 1).toNat⟩:=by
 simp only[rowsOf,shapeL,List.zipIdx_cons,List.zipIdx_nil,List.map_cons,List.map_nil,List.mem_cons,List.not_mem_nil,or_false]at h
 rcases h with rfl|rfl|rfl|rfl|rfl|rfl|rfl|rfl|rfl|rfl|rfl|rfl|rfl|rfl|rfl|rfl|rfl|rfl|rfl
 ·exact⟨1,rfl,rfl⟩
 ·exact⟨2,rfl,rfl⟩
 ·exact⟨3,rfl,rfl⟩
 ·exact⟨4,rfl,rfl⟩
 ·exact⟨5,rfl,rfl⟩
 ·exact⟨6,rfl,rfl⟩
 ·exact⟨7,rfl,rfl⟩
 ·exact⟨8,rfl,rfl⟩
 ·exact⟨9,rfl,rfl⟩
 ·exact⟨10,rfl,rfl⟩
 ·exact⟨11,rfl,rfl⟩
 ·exact⟨12,rfl,rfl⟩
 ·exact⟨13,rfl,rfl⟩
 ·exact⟨14,rfl,rfl⟩
 ·exact⟨15,rfl,rfl⟩
 ·exact⟨16,rfl,rfl⟩
 ·exact⟨17,rfl,rfl⟩
 ·exact⟨18,rfl,rfl⟩
 ·exact⟨19,rfl,rfl⟩
theorem shape_has {k:Int}(h:betw k 1 19=true):(⟨.int .i64 k,.agg #[.string (wordS k),.string (namesS k)],(k - 1).toNat⟩:MapEntry)∈shapeE.toList:=by
 simp only[rowsOf,shapeL,List.zipIdx_cons,List.zipIdx_nil,List.map_cons,List.map_nil]
 rcases kinds_of h with rfl|rfl|rfl|rfl|rfl|rfl|rfl|rfl|rfl|rfl|rfl|rfl|rfl|rfl|rfl|rfl|rfl|rfl|rfl
 all_goals
  repeat (first|exact List.mem_cons_self|apply List.mem_cons_of_mem)
theorem shape_hold:∀ e∈shapeE.toList,e.born<shapeL.length:=fun e he=>by
 obtain⟨k,hk,rfl⟩:=shape_mem he
 simp[betw]at hk
 show (k - 1).toNat<19
 omega
theorem shape_nodup:(shapeE.toList.map (·.born)).Nodup:=by
 simp[rowsOf,shapeL]
def passK (wd:Byt) (n:Nat) (seen:Array Nat):Prop:=∀ k,betw k 1 19=true→seen.contains (k - 1).toNat=true→wordOf k≠wd∨n≠(namesS k).size
theorem passK_start (wd:Byt) (n:Nat):passK wd n #[]:=fun k _ h=>by simp at h
theorem passK_push {wd:Byt}{n:Nat}{seen:Array Nat}{k:Int}(h:passK wd n seen) (hk:betw k 1 19=true) (hn:wordOf k≠wd∨n≠(namesS k).size):passK wd n (seen.push (k - 1).toNat):=fun j hj hc=>by
 rw[contains_push]at hc
 rcases Bool.or_eq_true _ _▸hc with h1|h1
 ·exact h j hj h1
 ·have:(j - 1).toNat=(k - 1).toNat:=beq_iff_eq.1 h1
  simp[betw]at hk hj
  obtain rfl:j=k:=by omega
  exact hn
theorem passK_none {wd:Byt}{args:List Byt}{seen:Array Nat}(h:passK wd args.length seen) (hz:(leftOf shapeE seen).size=0):instrW (wd::args)=none:=by
 unfold instrW
 dsimp only
 cases hk:kindW wd with
 | none=>rfl
 | some k=>
  obtain⟨h1,h2⟩:=kindW_some hk
  have h3:=h k h1 (all_seen _ _ hz _ (shape_has h1))
  rcases h3 with h3|h3
  ·exact absurd h2 h3
  ·dsimp only
   rw[if_neg (fun h4=>h3 h4.1)]
theorem instrW_kind {k:Int}(hk:betw k 1 19=true) {args:List Byt}(hl:args.length=(namesS k).size):instrW (wordOf k::args)=if args.all numB=true then some (fillI (namesS k) k (fun j=>numV (args.getD j [])) (namesS k).size) else none:=by
 unfold instrW
 dsimp only
 rw[kindW_word hk]
 dsimp only
 by_cases h:args.all numB=true
 ·rw[if_pos ⟨hl,h⟩,if_pos h]
 ·rw[if_neg (fun h4=>h h4.2),if_neg h]
theorem setC_at (i:Ins) (c v:Int):spliced i.cells (offC c) [.int .i64 v]=(setC i c v).cells:=by
 unfold offC setC
 by_cases h1:c=118
 ·simp[h1,spliced]
 ·by_cases h2:c=97
  ·simp[h2,spliced]
  ·by_cases h3:c=98
   ·simp[h3,spliced]
   ·by_cases h4:c=103
    ·simp[h4,spliced]
    ·simp[h1,h2,h3,h4,spliced]
theorem instr_any (s:ByteArray) (hs:s.size≤1000000) (w:World) (hg:Glob w):
  Calls Tryz.prog 69 #[.string s] w fun e w'=>e=.returned (.tuple #[((instrD s.data.toList).getD (zeroI 0)).v,.bool (instrD s.data.toList).isSome])∧Below w.heap.size w w':=by
 have HG:=Lib.hid hg
 have HS:=Lib.hid (fun w' (hb' : Below w.heap.size w w')=>splitZ s 32 hs w' (hg.grow hb'))
 have HLN:=Lib.hid (fun p (hp:p∈pieces 32 s.data.toList)=>Nat.le_trans (pieces_len hp) (by rw[Array.length_toList];exact hs:s.data.toList.length≤1000000))
 have hsz:s.data.toList.length≤1000000:=by rw[Array.length_toList];exact hs
 have HPC:=Lib.hid (Nat.le_trans (pieces_count 32 s.data.toList) (Nat.succ_le_succ hsz))
 unfold instrD
 cases hps:pieces 32 s.data.toList with
 | nil=>exact absurd hps (pieces_ne _ _)
 | cons wd args=>
 rw[hps]at HS HLN HPC
 have hal:args.length≤1000000:=by have:=HPC.out;simpa using this
 clear hg hps hsz HPC
 generalize hres:instrW (wd::args)=res
 have HRES:=Lib.hid hres
 clear hres
 have hL:=Loc.start w
 go_enter Tryz.func69,Tryz.ntmps69
 go_wp2_with (first|(go_at_call 114;refine(HS.out _ hL.below).mono ?_;rintro e w3 ⟨bq,rfl,hq⟩;replace hL:=hL.gave hq;clear hq;simp only[List.nil_append,List.append_nil,List.map_cons,List.map_nil,List.cons_append]at hL;(try dsimp only[List.length_cons,List.length_nil]);(try dsimp only))|(go_at_call 116;refine(shapes_any _).mono ?_;rintro e w3 ⟨bm,rfl,hge,hm,hb3⟩;replace hL:=hL.more hb3 (MapAt.fresh hge hm);clear hb3 hge hm;dsimp only)|(refine loc_range mShapes hL rfl ?_;clear hL;intro br w1 hL)|(with_reducible first|refine lld hL ?_|((first|refine lbx hL ?_|refine lal hL ?_|refine lbs hL ?_);clear hL;intro bl w1 hL)|(refine lst' hL ?_;clear hL;intro w1 hL)))
 simp only[Act.put,List.setIfInBounds_toArray,List.set_cons_succ,List.set_cons_zero]
 go_loopw [] (fun wr=>∃ seen,passK wd args.length seen∧Loc w wr [(bl,86,(zeroI 0).cells),(bq,9,strV wd::List.map strV args)] [IterAt br bm shapeL.length seen shapeL.length,MapAt bm shapeE shapeL.length]) (fun wr=>(leftOf shapeE (wr.iterSeen br)).size)
 case atStart=>exact⟨#[],passK_start _ _,hL⟩
 case round=>
  clear hL
  obtain⟨seen,hps,hL⟩:=hrel
  have HPS:=Lib.hid hps
  have HSE:=Lib.hid (IterAt.seen (hL.get List.mem_cons_self))
  clear hps
  by_cases hz:(leftOf shapeE seen).size=0
  ·have HN:=Lib.hid (passK_none HPS.out hz)
   have HZ:=Lib.hid hz
   clear hz
   go_wp2_with (first|(refine loc_next0 HZ.out hL shape_hold rfl ?_)|(with_reducible first|refine lld hL ?_|((first|refine lbx hL ?_|refine lal hL ?_|refine lbs hL ?_);clear hL;intro bl w1 hL)|(refine lst' hL ?_;clear hL;intro w1 hL)))
   (try simp only[Exit.inBlock,Exit.then]);refine rt2 ?_
   exact⟨by rw[← HRES.out,HN.out];rfl,hL.below⟩
  ·have HZ:=Lib.hid hz
   clear hz
   go_upto_region 5 with(first|(refine loc_next1 HZ.out hL shape_hold rfl ?_;clear hL;intro e w1 he hL;obtain⟨k,hk,hek⟩:=shape_mem (mem_left he).1;subst hek;have HE:=Lib.hid he;have HK:=Lib.hid hk;clear he hk;dsimp only)|(refine loc_entry hL (mem_left HE.out).1 shape_nodup rfl ?_;dsimp only)|((with_reducible refine lal hL ?_);clear hL;intro b6 w1 hL)|(with_reducible first|refine lld hL ?_|((first|refine lbx hL ?_|refine lal hL ?_|refine lbs hL ?_);clear hL;intro bl w1 hL)|(refine lst' hL ?_;clear hL;intro w1 hL)))
   refine draw_begin [20,21,22,23,24,25,26,27,28,29,30,31,32,33,34] ?_
   refine dv0 ?_
   refine dv1 0 ?_
   refine dv0 ?_
   refine dv1 2 ?_
   refine dv1 3 ?_
   refine dv2 1 4 ?_
   refine dv1 5 ?_
   refine dg0 6 ?_
   refine dg1 6 7 ?_
   refine dg0 6 ?_
   refine dg1 6 9 ?_
   refine dg1 6 10 ?_
   refine dg1 6 11 ?_
   refine dg2 6 8 12 ?_
   refine dpo 6 13 ?_
   refine dnd hL ?_
   clear hL;intro w2 hL;simp only[fillX,sTa,sTb]
   have hcond:((!((wordS k).toList==wd)) || ((args.length:Int)+1 != wrap64 (1+((namesS k).size:Int))))=!(decide (wordOf k=wd∧args.length=(namesS k).size)):=by
    have h3:=names_few HK.out
    rw[Go.IntWalk.wrap64_in _ (by omega),Lib.toList_data]
    by_cases h1:(wordS k).data.toList=wd
    ·by_cases h2:args.length=(namesS k).size
     ·rw[show decide (wordOf k=wd∧args.length=(namesS k).size)=true from decide_eq_true ⟨h1,h2⟩,h1,h2]
      simp
      omega
     ·rw[show decide (wordOf k=wd∧args.length=(namesS k).size)=false from decide_eq_false (fun h=>h2 h.2),h1]
      simp
      omega
    ·rw[show decide (wordOf k=wd∧args.length=(namesS k).size)=false from decide_eq_false (fun h=>h1 h.1)]
     simp[h1]
   simp only[hcond]
   clear hcond
   cases hm:decide (wordOf k=wd∧args.length=(namesS k).size) with
   | false=>
    have HM:=Lib.hid (of_decide_eq_false hm)
    clear hm
    go_wp2_with (first|(with_reducible first|refine lld hL ?_|((first|refine lbx hL ?_|refine lal hL ?_|refine lbs hL ?_);clear hL;intro bl w1 hL)|(refine lst' hL ?_;clear hL;intro w1 hL)))
    go_roundw
    case rel=>exact⟨seen.push (k - 1).toNat,passK_push HPS.out HK.out (by by_cases h1:wordOf k=wd;exact .inr (fun h2=>HM.out ⟨h1,h2⟩);exact .inl h1),hL.drop (List.sublist_cons_self _ _) (fun _ h=>h)⟩
    case measure=>
     rw[IterAt.seen (hL.get List.mem_cons_self),HSE.out]
     exact left_shrinks _ _ _ HE.out
   | true=>
    obtain⟨hw1,hw2⟩:=of_decide_eq_true hm
    clear hm
    subst hw1
    have hww:((wordS k).toList==wordOf k)=true:=by rw[Lib.toList_data];exact beq_self_eq_true _
    simp only[hww,Bool.not_true,cnd,if_true,beq_self_eq_true]
    clear hww
    have HIK:=Lib.hid (instrW_kind HK.out hw2)
    have hfew:=names_few HK.out
    have HNM:=Lib.hid (fun j (hj:j<args.length) w' (hb' : Below w.heap.size w w')=>numberL (args.getD j []) (HLN.out _ (List.mem_cons_of_mem _ (by rw[List.getD_eq_getElem?_getD,List.getElem?_eq_getElem hj];exact List.getElem_mem hj))) w' (HG.out.grow hb'))
    generalize hvs:(fun j=>numV (args.getD j []))=vs at HIK
    have HVS:=Lib.hid hvs
    clear hvs
    generalize hnb:(fun j=>numB (args.getD j []))=nb
    have HNB:=Lib.hid hnb
    clear hnb
    generalize namesS k=ns at HIK hfew hw2 hL ⊢
    have HW:=Lib.hid hw2
    clear hw2
    go_wp2_with (first|((with_reducible refine lal hL ?_);clear hL;intro b7 w1 hL)|(with_reducible first|refine lld hL ?_|((first|refine lbx hL ?_|refine lal hL ?_|refine lbs hL ?_);clear hL;intro bl w1 hL)|(refine lst' hL ?_;clear hL;intro w1 hL)))
    go_loopw [40] (fun c wr=>∃ j:Nat,j≤ns.size∧c=.int .i64 j∧(∀ t,t<j→nb t=true)∧Loc w wr [(b7,86,(fillI ns k vs j).cells),(b6,162,[.string (wordS k),.string ns]),(bl,86,(zeroI 0).cells),(bq,9,strV (wordOf k)::List.map strV args)] [IterAt br bm shapeL.length (seen.push (k - 1).toNat) shapeL.length,MapAt bm shapeE shapeL.length]) (fun c _=>ns.size - (intOf c).toNat)
    case atStart=>exact⟨0,Nat.zero_le _,rfl,fun t ht=>absurd ht (Nat.not_lt_zero t),hL⟩
    case round=>
     clear hL
     obtain⟨j,hj,rfl,hall,hL⟩:=hrel
     have HALL:=Lib.hid hall
     clear hall
     by_cases hlt:j<ns.size
     ·have hja:j<args.length:=by rw[HW.out];exact hlt
      have hn1:=HNM.out j hja
      have hvj:numV (args.getD j [])=vs j:=by rw[← HVS.out]
      have hbj:numB (args.getD j [])=nb j:=by rw[← HNB.out]
      have HRD:=Lib.hid (show (strV (wordOf k)::List.map strV args)[1+j]? = some (strV (args.getD j [])) by
       rw[Nat.add_comm,List.getElem?_cons_succ,List.getElem?_map,List.getD_eq_getElem?_getD,List.getElem?_eq_getElem hja];rfl)
      rw[hvj,hbj]at hn1
      have HBJ:=Lib.hid hbj
      clear hvj hbj
      generalize args.getD j []=aj at hn1 HRD HBJ
      cases hq:nb j with
      | false=>
       rw[hq]at hn1
       have HN1:=Lib.hid hn1
       have HR0:=Lib.hid (show res=none by
        rw[← HRES.out,HIK.out,if_neg]
        intro h
        have h2:=List.all_eq_true.1 h (args[j]'hja) (List.getElem_mem hja)
        have h3:nb j=numB args[j]:=by rw[← HNB.out];simp only[List.getD_eq_getElem?_getD,List.getElem?_eq_getElem hja,Option.getD_some]
        rw[← h3,hq]at h2
        cases h2)
       clear hn1 hq
       go_wp2_with (first|(go_at_call 115;refine(HN1.out _ hL.below).mono ?_;rintro e w1 ⟨rfl,hb⟩;replace hL:=hL.grow hb;clear hb;dsimp only)|(refine loc_load (b:=bq) hL want0 rfl cIn (Reads.cell tStr (HRD.out)) ?_)|(with_reducible first|refine lld hL ?_|((first|refine lbx hL ?_|refine lal hL ?_|refine lbs hL ?_);clear hL;intro bl w1 hL)|(refine lst' hL ?_;clear hL;intro w1 hL)))
       (try simp only[Exit.inBlock,Exit.then]);refine rt2 ?_
       exact⟨by rw[HR0.out];rfl,hL.below⟩
      | true=>
       rw[hq]at hn1
       have HN1:=Lib.hid hn1
       have HQ:=Lib.hid hq
       clear hn1 hq
       go_wp2_with (first|(go_at_call 115;refine(HN1.out _ hL.below).mono ?_;rintro e w1 ⟨rfl,hb⟩;replace hL:=hL.grow hb;clear hb;dsimp only)|(refine loc_load (b:=bq) hL want0 rfl cIn (Reads.cell tStr (HRD.out)) ?_)|(go_at_call 117;refine(part_any b7 _ _).mono ?_;rintro e w' ⟨rfl,rfl⟩;dsimp only)|(refine loc_store (b:=b7) (vs:=[.int .i64 (vs j)]) (cs':=(setC (fillI ns k vs j) ((ns[j]'hlt).toNat:Int) (vs j)).cells) hL want0 rfl cIn rfl tInt.sz rfl (offC_lt _) (setC_at _ _ _) ?_;clear hL;intro w1 hL)|(with_reducible first|refine lld hL ?_|((first|refine lbx hL ?_|refine lal hL ?_|refine lbs hL ?_);clear hL;intro bl w1 hL)|(refine lst' hL ?_;clear hL;intro w1 hL)))
       go_roundw
       case rel=>
        refine⟨j+1,by omega,by go_num,fun t ht=>?_,hL.conv (by rw[letter_eq hlt];rfl)⟩
        rcases Nat.lt_or_ge t j with h|h
        ·exact HALL.out t h
        ·obtain rfl:t=j:=by omega
         exact HQ.out
       case measure=>simp[intOf];omega
     ·obtain rfl:j=ns.size:=by omega
      have HR0:=Lib.hid (show res=some (fillI ns k vs ns.size) by
       rw[← HRES.out,HIK.out,if_pos]
       rw[List.all_eq_true]
       intro p hp
       obtain⟨t,ht,rfl⟩:=List.mem_iff_getElem.1 hp
       have h3:nb t=numB args[t]:=by rw[← HNB.out];simp only[List.getD_eq_getElem?_getD,List.getElem?_eq_getElem ht,Option.getD_some]
       rw[← h3]
       exact HALL.out t (by rw[← HW.out];exact ht))
      clear hlt
      generalize fillI ns k vs ns.size=fi at HR0 hL
      go_wp2_with (first|(with_reducible first|refine lld hL ?_|((first|refine lbx hL ?_|refine lal hL ?_|refine lbs hL ?_);clear hL;intro bl w1 hL)|(refine lst' hL ?_;clear hL;intro w1 hL)))
      (try simp only[Exit.inBlock,Exit.then]);refine rt2 ?_
      exact⟨by rw[HR0.out];rfl,hL.below⟩
end Go.Proofs.YtplcndmdkabmeaaGreatDoor
