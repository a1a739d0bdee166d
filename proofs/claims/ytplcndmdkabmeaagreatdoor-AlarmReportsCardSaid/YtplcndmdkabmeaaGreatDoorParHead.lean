/- The walk over the package code's head: how many variables and fields a line tells. Conditions: the line is not too long; the library's variables. -/
import Derived.Test.YtplcndmdkabmeaaGreatDoorShaped
import Derived.Test.YtplcndmdkabmeaaGreatDoorParP
set_option linter.unusedSimpArgs false
set_option linter.unusedVariables false
set_option maxRecDepth 100000
set_option maxHeartbeats 1600000
namespace Go.Proofs.YtplcndmdkabmeaaGreatDoor
open Go.RowKit
theorem UW {ps:List Byt}(h:ps.length≠4):JS ps=none:=by
 match ps with
 | []=>rfl
 | [_]=>rfl
 | [_,_]=>rfl
 | [_,_,_]=>rfl
 | [_,_,_,_]=>exact absurd rfl h
 | _::_::_::_::_::_=>rfl
theorem UX (a b c d:Byt):JS [a,b,c,d]=if a=jG∧c=qD∧yo b=true∧yo d=true then some (QM b,QM d) else none:=rfl
theorem V8 (b d:Byt):(JS [jG,b,qD,d]).isSome=(yo b&&yo d):=by
 rw[UX]
 cases hb:yo b<;>cases hd:yo d<;>simp
theorem V9 {b d:Byt}(v' f' : Int) (h:JS [jG,b,qD,d]=some (v',f')):QM b=v'∧QM d=f':=by
 rw[UX]at h
 split at h
 ·simpa using h
 ·cases h
theorem GC {a b c d:Byt}(h:¬(a=jG∧c=qD)):JS [a,b,c,d]=none:=by
 rw[UX,if_neg (fun h1=>h ⟨h1.1,h1.2.1⟩)]
theorem XS (l:Byt) (hl:l.length≤1000000) (w:World) (hg:yI w):
  Calls Tryz.prog 115 #[yM l] w fun e w'=>e=.returned (.tuple #[.int .i64 (QM l),.bool (yo l)])∧Below w.heap.size w w':=by
 have h:=zaP ⟨l.toArray⟩ (by show l.toArray.size≤_;simpa using hl) w hg
 simpa using h
theorem zgx {α:Type}{l:List α}(h:l.length=4):∃ a b c d,l=[a,b,c,d]:=by
 match l,h with
 | [a,b,c,d],_=>exact⟨a,b,c,d,rfl⟩
theorem zdI (s:ByteArray) (hs:s.size≤1000000) (w:World) (hg:yI w):
  Calls Tryz.prog 68 #[.string s] w fun e w'=>∃ v f,e=.returned (.tuple #[.agg #[.int .i64 v,.int .i64 f,.slice none 0 0],.bool (Ju s.data.toList).isSome])∧(∀ v' f',Ju s.data.toList=some (v',f')→v=v'∧f=f')∧Below w.heap.size w w':=by
 have HG:=Lib.hid hg
 have HS:=Lib.hid (fun w' (hb' : Below w.heap.size w w')=>zdB s 32 hs w' (hg.grow hb'))
 have HLN:=Lib.hid (fun p (hp:p∈zE 32 s.data.toList)=>Nat.le_trans (yz hp) (by rw[Array.length_toList];exact hs:s.data.toList.length≤1000000))
 have HPC:=Lib.hid (yd 32 s.data.toList)
 have HSZ:=Lib.hid (show s.data.toList.length≤1000000 by rw[Array.length_toList];exact hs)
 unfold Ju
 generalize zE 32 s.data.toList=ps at HS HLN HPC ⊢
 clear hg
 have hL:=Loc.start w
 go_enter Tryz.func68,Tryz.ntmps68
 by_cases h4:ps.length=4
 ·obtain⟨a,b,c,d,rfl⟩:=zgx h4
  clear h4
  have hla:=HLN.out a (by simp)
  have hlb:=HLN.out b (by simp)
  have hlc:=HLN.out c (by simp)
  have hld:=HLN.out d (by simp)
  have HNB:=Lib.hid (fun w' (hb' : Below w.heap.size w w')=>XS b hlb w' (HG.out.grow hb'))
  have HND:=Lib.hid (fun w' (hb' : Below w.heap.size w w')=>XS d hld w' (HG.out.grow hb'))
  by_cases hac:a=jG∧c=qD
  ·obtain⟨rfl,rfl⟩:=hac
   have HQ1:=Lib.hid (V8 b d)
   have HQ2:=Lib.hid (V9 (b:=b) (d:=d))
   generalize yo b=nb at HNB HQ1
   generalize yo d=nd at HND HQ1
   generalize JS [jG,b,qD,d]=hw at HQ1 HQ2 ⊢
   cases nb<;>cases nd
   all_goals
    go_wp2_with (first|(go_at_call 114;refine(HS.out _ hL.below).mono ?_;rintro e w3 ⟨bq,rfl,hq⟩;replace hL:=hL.gave hq;clear hq;simp only[List.nil_append,List.append_nil,List.map_cons,List.map_nil,List.cons_append]at hL;(try dsimp only[List.length_cons,List.length_nil]);(try dsimp only))|(with_reducible first|refine lld hL ?_|(refine lal hL ?_;clear hL;intro bl w1 hL)|(refine zd hL ?_;clear hL;intro w1 hL))|(go_at_call 115;first|((with_reducible refine(HNB.out _ hL.below).mono ?_);rintro e w1 ⟨rfl,hb⟩;replace hL:=hL.grow hb;clear hb;dsimp only)|((with_reducible refine(HND.out _ hL.below).mono ?_);rintro e w1 ⟨rfl,hb⟩;replace hL:=hL.grow hb;clear hb;dsimp only)))
    refine rt2 ?_
    exact⟨_,_,by rw[HQ1.out];rfl,HQ2.out,hL.below⟩
  ·have HQ:=Lib.hid (GC (b:=b) (d:=d) hac)
   generalize JS [a,b,c,d]=hw at HQ ⊢
   have hae:(a==[118,97,114,115])=false∨((a==[118,97,114,115])=true∧(c==[102,105,101,108,100,115])=false):=by
    by_cases h:a=jG
    ·exact .inr ⟨by subst h;rfl,by rw[beq_eq_false_iff_ne];exact fun h2=>hac ⟨h,h2⟩⟩
    ·exact .inl (by rw[beq_eq_false_iff_ne];exact h)
   clear hac
   rcases hae with h1|⟨h1,h2⟩
   all_goals
    go_wp2_with (first|(go_at_call 114;refine(HS.out _ hL.below).mono ?_;rintro e w3 ⟨bq,rfl,hq⟩;replace hL:=hL.gave hq;clear hq;simp only[List.nil_append,List.append_nil,List.map_cons,List.map_nil,List.cons_append]at hL;(try dsimp only[List.length_cons,List.length_nil]);(try dsimp only))|(with_reducible first|refine lld hL ?_|(refine lal hL ?_;clear hL;intro bl w1 hL)|(refine zd hL ?_;clear hL;intro w1 hL)))
    refine rt2 ?_
    exact⟨_,_,by rw[HQ.out];rfl,(fun v' f' h=>by rw[HQ.out]at h;cases h),hL.below⟩
 ·have HQ:=Lib.hid (UW h4)
  generalize JS ps=hw at HQ ⊢
  have h4b:((ps.length:Int) != 4)=true:=by rw[bne_iff_ne];omega
  have hps:ps.length≤1000001:=by have:=HPC.out;have:=HSZ.out;omega
  clear h4
  go_wp2_with (first|(go_at_call 114;refine(HS.out _ hL.below).mono ?_;rintro e w3 ⟨bq,rfl,hq⟩;replace hL:=hL.gave hq;clear hq;simp only[List.nil_append,List.append_nil,List.map_cons,List.map_nil,List.cons_append]at hL;(try dsimp only[List.length_cons,List.length_nil]);(try dsimp only))|(with_reducible first|(refine lal hL ?_;clear hL;intro bl w1 hL)|(refine zd hL ?_;clear hL;intro w1 hL)))
  refine rt2 ?_
  exact⟨_,_,by rw[HQ.out];rfl,(fun v' f' h=>by rw[HQ.out]at h;cases h),hL.below⟩
end Go.Proofs.YtplcndmdkabmeaaGreatDoor
