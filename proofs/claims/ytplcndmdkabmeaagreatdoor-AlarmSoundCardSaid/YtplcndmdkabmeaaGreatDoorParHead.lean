/-  -/
import Derived.Test.YtplcndmdkabmeaaGreatDoorShaped
import Derived.Test.YtplcndmdkabmeaaGreatDoorParP
set_option linter.unusedSimpArgs false
set_option linter.unusedVariables false
set_option maxRecDepth 100000
set_option maxHeartbeats 1600000
namespace Go.Proofs.YtplcndmdkabmeaaGreatDoor
open Go.RowKit
theorem headW_four {ps:List Byt}(h:ps.length≠4):headW ps=none:=by
 match ps with
 | []=>rfl
 | [_]=>rfl
 | [_,_]=>rfl
 | [_,_,_]=>rfl
 | [_,_,_,_]=>exact absurd rfl h
 | _::_::_::_::_::_=>rfl
theorem headW_mk (a b c d:Byt):headW [a,b,c,d]=if a=varsW∧c=fieldsW∧numB b=true∧numB d=true then some (numV b,numV d) else none:=rfl
theorem headW_yes (b d:Byt):(headW [varsW,b,fieldsW,d]).isSome=(numB b&&numB d):=by
 rw[headW_mk]
 cases hb:numB b<;>cases hd:numB d<;>simp
theorem headW_val {b d:Byt}(v' f' : Int) (h:headW [varsW,b,fieldsW,d]=some (v',f')):numV b=v'∧numV d=f':=by
 rw[headW_mk]at h
 split at h
 ·simpa using h
 ·cases h
theorem headW_no {a b c d:Byt}(h:¬(a=varsW∧c=fieldsW)):headW [a,b,c,d]=none:=by
 rw[headW_mk,if_neg (fun h1=>h ⟨h1.1,h1.2.1⟩)]
theorem numberL (l:Byt) (hl:l.length≤1000000) (w:World) (hg:Glob w):
  Calls Tryz.prog 115 #[strV l] w fun e w'=>e=.returned (.tuple #[.int .i64 (numV l),.bool (numB l)])∧Below w.heap.size w w':=by
 have h:=number_any ⟨l.toArray⟩ (by show l.toArray.size≤_;simpa using hl) w hg
 simpa using h
theorem four {α:Type}{l:List α}(h:l.length=4):∃ a b c d,l=[a,b,c,d]:=by
 match l,h with
 | [a,b,c,d],_=>exact⟨a,b,c,d,rfl⟩
theorem head_any (s:ByteArray) (hs:s.size≤1000000) (w:World) (hg:Glob w):
  Calls Tryz.prog 68 #[.string s] w fun e w'=>∃ v f,e=.returned (.tuple #[.agg #[.int .i64 v,.int .i64 f,.slice none 0 0],.bool (headD s.data.toList).isSome])∧(∀ v' f',headD s.data.toList=some (v',f')→v=v'∧f=f')∧Below w.heap.size w w':=by
 have HG:=Lib.hid hg
 have HS:=Lib.hid (fun w' (hb' : Below w.heap.size w w')=>splitZ s 32 hs w' (hg.grow hb'))
 have HLN:=Lib.hid (fun p (hp:p∈pieces 32 s.data.toList)=>Nat.le_trans (pieces_len hp) (by rw[Array.length_toList];exact hs:s.data.toList.length≤1000000))
 have HPC:=Lib.hid (pieces_count 32 s.data.toList)
 have HSZ:=Lib.hid (show s.data.toList.length≤1000000 by rw[Array.length_toList];exact hs)
 unfold headD
 generalize pieces 32 s.data.toList=ps at HS HLN HPC ⊢
 clear hg
 have hL:=Loc.start w
 go_enter Tryz.func68,Tryz.ntmps68
 by_cases h4:ps.length=4
 ·obtain⟨a,b,c,d,rfl⟩:=four h4
  clear h4
  have hla:=HLN.out a (by simp)
  have hlb:=HLN.out b (by simp)
  have hlc:=HLN.out c (by simp)
  have hld:=HLN.out d (by simp)
  have HNB:=Lib.hid (fun w' (hb' : Below w.heap.size w w')=>numberL b hlb w' (HG.out.grow hb'))
  have HND:=Lib.hid (fun w' (hb' : Below w.heap.size w w')=>numberL d hld w' (HG.out.grow hb'))
  by_cases hac:a=varsW∧c=fieldsW
  ·obtain⟨rfl,rfl⟩:=hac
   have HQ1:=Lib.hid (headW_yes b d)
   have HQ2:=Lib.hid (headW_val (b:=b) (d:=d))
   generalize numB b=nb at HNB HQ1
   generalize numB d=nd at HND HQ1
   generalize headW [varsW,b,fieldsW,d]=hw at HQ1 HQ2 ⊢
   cases nb<;>cases nd
   all_goals
    go_wp2_with (first|(go_at_call 114;refine(HS.out _ hL.below).mono ?_;rintro e w3 ⟨bq,rfl,hq⟩;replace hL:=hL.gave hq;clear hq;simp only[List.nil_append,List.append_nil,List.map_cons,List.map_nil,List.cons_append]at hL;(try dsimp only[List.length_cons,List.length_nil]);(try dsimp only))|(with_reducible first|refine lld hL ?_|((first|refine lbx hL ?_|refine lal hL ?_|refine lbs hL ?_);clear hL;intro bl w1 hL)|(refine lst' hL ?_;clear hL;intro w1 hL))|(go_at_call 115;first|((with_reducible refine(HNB.out _ hL.below).mono ?_);rintro e w1 ⟨rfl,hb⟩;replace hL:=hL.grow hb;clear hb;dsimp only)|((with_reducible refine(HND.out _ hL.below).mono ?_);rintro e w1 ⟨rfl,hb⟩;replace hL:=hL.grow hb;clear hb;dsimp only)))
    (try simp only[Exit.inBlock,Exit.then]);refine rt2 ?_
    exact⟨_,_,by rw[HQ1.out];rfl,HQ2.out,hL.below⟩
  ·have HQ:=Lib.hid (headW_no (b:=b) (d:=d) hac)
   generalize headW [a,b,c,d]=hw at HQ ⊢
   have hae:(a==[118,97,114,115])=false∨((a==[118,97,114,115])=true∧(c==[102,105,101,108,100,115])=false):=by
    by_cases h:a=varsW
    ·exact .inr ⟨by subst h;rfl,by rw[beq_eq_false_iff_ne];exact fun h2=>hac ⟨h,h2⟩⟩
    ·exact .inl (by rw[beq_eq_false_iff_ne];exact h)
   clear hac
   rcases hae with h1|⟨h1,h2⟩
   all_goals
    go_wp2_with (first|(go_at_call 114;refine(HS.out _ hL.below).mono ?_;rintro e w3 ⟨bq,rfl,hq⟩;replace hL:=hL.gave hq;clear hq;simp only[List.nil_append,List.append_nil,List.map_cons,List.map_nil,List.cons_append]at hL;(try dsimp only[List.length_cons,List.length_nil]);(try dsimp only))|(with_reducible first|refine lld hL ?_|((first|refine lbx hL ?_|refine lal hL ?_|refine lbs hL ?_);clear hL;intro bl w1 hL)|(refine lst' hL ?_;clear hL;intro w1 hL)))
    (try simp only[Exit.inBlock,Exit.then]);refine rt2 ?_
    exact⟨_,_,by rw[HQ.out];rfl,(fun v' f' h=>by rw[HQ.out]at h;cases h),hL.below⟩
 ·have HQ:=Lib.hid (headW_four h4)
  generalize headW ps=hw at HQ ⊢
  have h4b:((ps.length:Int) != 4)=true:=by rw[bne_iff_ne];omega
  have hps:ps.length≤1000001:=by have:=HPC.out;have:=HSZ.out;omega
  clear h4
  go_wp2_with (first|(go_at_call 114;refine(HS.out _ hL.below).mono ?_;rintro e w3 ⟨bq,rfl,hq⟩;replace hL:=hL.gave hq;clear hq;simp only[List.nil_append,List.append_nil,List.map_cons,List.map_nil,List.cons_append]at hL;(try dsimp only[List.length_cons,List.length_nil]);(try dsimp only))|(with_reducible first|refine lld hL ?_|((first|refine lbx hL ?_|refine lal hL ?_|refine lbs hL ?_);clear hL;intro bl w1 hL)|(refine lst' hL ?_;clear hL;intro w1 hL)))
  (try simp only[Exit.inBlock,Exit.then]);refine rt2 ?_
  exact⟨_,_,by rw[HQ.out];rfl,(fun v' f' h=>by rw[HQ.out]at h;cases h),hL.below⟩
end Go.Proofs.YtplcndmdkabmeaaGreatDoor
